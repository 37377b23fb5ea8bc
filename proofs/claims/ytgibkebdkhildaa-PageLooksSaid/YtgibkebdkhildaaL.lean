import Derived.Test.YtgibkebdkhildaaK
import Derived.Test.YtgibkebdkhildaaG
namespace Go.Proofs.Ytgibkebdkhildaa
open Go.RowKit
set_option linter.unusedVariables false
set_option linter.unusedSimpArgs false

theorem ka {w : World} {a : Addr} {v : Value} (h : w.cell? a = some v) (o : Obj) : (w.alloc o).cell? a = some v := kc ((Below.refl _ _).alloc (Nat.le_refl _) o) h
theorem wf64 {n : Int} (h : (Lit.int .i64 n).wf = true) : -9223372036854775808 ≤ n ∧ n ≤ 9223372036854775807 := by
  simp [Lit.wf, IntKind.min, IntKind.max, IntKind.signed, IntKind.bits] at h
  exact h
theorem wfu {n : Int} (h : (Lit.int .u64 n).wf = true) : 0 ≤ n ∧ n ≤ 18446744073709551615 := by
  simp [Lit.wf, IntKind.min, IntKind.max, IntKind.signed, IntKind.bits] at h
  exact h
theorem six (C : List Int) (hC : C.length = 8) (hw : ∀ x ∈ C, 0 ≤ x ∧ x ≤ 18446744073709551615) (a n v : Int) (a0 : -9223372036854775808 ≤ a) (a1 : a ≤ 9223372036854775807) (n0 : -9223372036854775808 ≤ n) (n1 : n ≤ 9223372036854775807) (v0 : 0 ≤ v) (v1 : v ≤ 18446744073709551615) :
    ∃ (X G E : Int) (D : List Int), D.length = 8 ∧
      (∀ w, Calls Try.prog 20 #[.agg (ca C), .int .i64 a, .int .i64 n] w fun e w' => e = .returned (.tuple #[.int .u64 X, .int .i64 E]) ∧ Below w.heap.size w w') ∧
      (∀ w, Calls Try.prog 21 #[.agg (ca C), .int .i64 a, .int .i64 n] w fun e w' => e = .returned (.tuple #[.int .u64 X, .int .i64 E]) ∧ Below w.heap.size w w') ∧
      (∀ w, Calls Try.prog 22 #[.agg (ca C), .int .i64 a, .int .i64 n] w fun e w' => e = .returned (.tuple #[.int .i64 G, .int .i64 E]) ∧ Below w.heap.size w w') ∧
      (∀ w, Calls Try.prog 23 #[.agg (ca C), .int .i64 a, .int .i64 n] w fun e w' => e = .returned (.tuple #[.int .i64 G, .int .i64 E]) ∧ Below w.heap.size w w') ∧
      (∀ w, Calls Try.prog 24 #[.agg (ca C), .int .i64 a, .int .i64 n, .int .u64 v] w fun e w' => e = .returned (.tuple #[.agg (ca D), .int .i64 E]) ∧ Below w.heap.size w w') ∧
      (∀ w, Calls Try.prog 25 #[.agg (ca C), .int .i64 a, .int .i64 n, .int .u64 v] w fun e w' => e = .returned (.tuple #[.agg (ca D), .int .i64 E]) ∧ Below w.heap.size w w') := by
  by_cases h : okB a n
  · obtain ⟨h1, h2, h3, h4⟩ := h
    obtain ⟨A, rfl⟩ := Int.eq_ofNat_of_zero_le h3
    obtain ⟨N, rfl⟩ := Int.eq_ofNat_of_zero_le (show 0 ≤ n by omega)
    exact ⟨byTo C A N, sgF (byTo C A N) N, 0, puF C A v N, jnF_len _,
      fun w => bytes_ok C hC hw A N (by omega) (by omega) (by omega) w, fun w => rbytes_ok C hC hw A N (by omega) (by omega) (by omega) w,
      fun w => signed_ok C hC hw A N (by omega) (by omega) (by omega) w, fun w => rsigned_ok C hC hw A N (by omega) (by omega) (by omega) w,
      fun w => putb_ok C hC hw A N (by omega) (by omega) (by omega) v v0 v1 w, fun w => rputb_ok C hC hw A N (by omega) (by omega) (by omega) v v0 v1 w⟩
  · have hf := decide_eq_false h
    exact ⟨0, 0, 2, [0, 0, 0, 0, 0, 0, 0, 0], rfl,
      fun w => bytes_bad C a n a0 a1 n0 n1 hf w, fun w => rbytes_bad C a n a0 a1 n0 n1 hf w,
      fun w => signed_bad C hC a n a0 a1 n0 n1 hf w, fun w => rsigned_bad C hC a n a0 a1 n0 n1 hf w,
      fun w => putb_bad C a n v a0 a1 n0 n1 hf w, fun w => rputb_bad C a n v a0 a1 n0 n1 hf w⟩

set_option maxRecDepth 20000 in
set_option maxHeartbeats 8000000 in
theorem bytes_walk (C : List Int) (hC : C.length = 8) (hw : ∀ x ∈ C, (Lit.int .u64 x).wf = true) (a : Int) (wa : (Lit.int .i64 a).wf = true) (n : Int) (wn : (Lit.int .i64 n).wf = true) (v : Int) (wv : (Lit.int .u64 v).wf = true) (w : World) :
    Calls Try.prog 5 #[.agg (ca C), .agg #[.int .i64 a, .int .i64 n, .int .u64 v]] w fun e w' => e = .returned (.bool true) ∧ Below w.heap.size w w' := by
  obtain ⟨X, G, E, D, hD, H20, H21, H22, H23, H24, H25⟩ := six C hC (fun x hx => wfu (hw x hx)) a n v (wf64 wa).1 (wf64 wa).2 (wf64 wn).1 (wf64 wn).2 (wfu wv).1 (wfu wv).2
  clear wa wn wv hw
  have K20 := hid H20
  have K21 := hid H21
  have K22 := hid H22
  have K23 := hid H23
  have K24 := hid H24
  have K25 := hid H25
  clear H20 H21 H22 H23 H24 H25
  have hb0 := ((Below.refl w.heap.size w).alloc (Nat.le_refl _) (.cells (ca C) 24)).alloc (by simp) (.cells #[.int .i64 a, .int .i64 n, .int .u64 v] 38)
  have hx0 := al (heap_alloc_new w (.cells (ca C) 24)) (.cells #[.int .i64 a, .int .i64 n, .int .u64 v] 38)
  have k00 : ((w.alloc (.cells (ca C) 24)).alloc (.cells #[.int .i64 a, .int .i64 n, .int .u64 v] 38)).cell? ⟨w.heap.size + 1, 0, none⟩ = some (.int .i64 a) := by simp [go_sem]
  have k10 : ((w.alloc (.cells (ca C) 24)).alloc (.cells #[.int .i64 a, .int .i64 n, .int .u64 v] 38)).cell? ⟨w.heap.size + 1, 1, none⟩ = some (.int .i64 n) := by simp [go_sem]
  have k20 : ((w.alloc (.cells (ca C) 24)).alloc (.cells #[.int .i64 a, .int .i64 n, .int .u64 v] 38)).cell? ⟨w.heap.size + 1, 2, none⟩ = some (.int .u64 v) := by simp [go_sem]
  go_enter Try.func5, Try.ntmps5
  go_wp2_with (refine wpList_load_row rfl 24 _ rfl w.heap.size rfl 24 (ca C) (0, 0) _ hx0 Try.underlying24 rfl (i24 hC) ?_)
  refine (K20.out _).mono ?_
  rintro e w1 ⟨rfl, hc⟩
  have hx1 := hbk hc hx0
  have hb1 := hb0.trans (hc.mono hb0.size)
  have k01 := kc hc k00
  have k11 := kc hc k10
  have k21 := kc hc k20
  clear hc hx0 hb0 k00 k10 k20
  go_wp2_with (refine wpList_load_row rfl 24 _ rfl w.heap.size rfl 24 (ca C) (0, 0) _ hx1 Try.underlying24 rfl (i24 hC) ?_)
  refine (K21.out _).mono ?_
  rintro e w2 ⟨rfl, hc⟩
  have hx2 := hbk hc hx1
  have hb2 := hb1.trans (hc.mono hb1.size)
  have k02 := kc hc k01
  have k12 := kc hc k11
  have k22 := kc hc k21
  clear hc hx1 hb1 k01 k11 k21
  go_wp2_with (refine wpList_load_row rfl 24 _ rfl w.heap.size rfl 24 (ca C) (0, 0) _ hx2 Try.underlying24 rfl (i24 hC) ?_)
  refine (K22.out _).mono ?_
  rintro e w3 ⟨rfl, hc⟩
  have hx3 := hbk hc hx2
  have hb3 := hb2.trans (hc.mono hb2.size)
  have k03 := kc hc k02
  have k13 := kc hc k12
  have k23 := kc hc k22
  clear hc hx2 hb2 k02 k12 k22
  go_wp2_with (refine wpList_load_row rfl 24 _ rfl w.heap.size rfl 24 (ca C) (0, 0) _ hx3 Try.underlying24 rfl (i24 hC) ?_)
  refine (K23.out _).mono ?_
  rintro e w4 ⟨rfl, hc⟩
  have hx4 := hbk hc hx3
  have hb4 := hb3.trans (hc.mono hb3.size)
  have k04 := kc hc k03
  have k14 := kc hc k13
  have k24 := kc hc k23
  clear hc hx3 hb3 k03 k13 k23
  go_wp2_with (refine wpList_load_row rfl 24 _ rfl w.heap.size rfl 24 (ca C) (0, 0) _ hx4 Try.underlying24 rfl (i24 hC) ?_)
  refine (K24.out _).mono ?_
  rintro e w5 ⟨rfl, hc⟩
  have hx5 := hbk hc hx4
  have hb5 := hb4.trans (hc.mono hb4.size)
  have k05 := kc hc k04
  have k15 := kc hc k14
  have k25 := kc hc k24
  clear hc hx4 hb4 k04 k14 k24
  have j0 := ka k05
  have j1 := ka k15
  have j2 := ka k25
  have kr : ∀ Z Y t, ((w5.alloc (.cells Z t)).setRow w5.heap.size Y) = w5.alloc (.cells Y t) := fun Z Y t => World.setRow_alloc_new _ _ _ _
  go_wp2_with (first
    | (refine wpList_store_row rfl 24 _ _ rfl w5.heap.size (ca D) rfl rfl 24 _ (heap_alloc_new _ _) (i24 hD) (by rw [ca_size, hD]; rfl) (ca_one _) ?_; rw [World.setRow_alloc_new])
    | (refine wpList_load_row rfl 24 _ rfl w.heap.size rfl 24 (ca C) (0, 0) _ (al hx5 _) Try.underlying24 rfl (i24 hC) ?_))
  refine (K25.out _).mono ?_
  rintro e w6 ⟨rfl, hc⟩
  have hy := hbk hc (heap_alloc_new w5 (.cells (ca D) 24))
  have hb5' := hb5.alloc hb5.size (.cells (ca D) 24)
  have hb6 := hb5'.trans (hc.mono hb5'.size)
  have heq : ∀ W, (Op.equalIn 10000 24 (.agg (ca D)) (.agg (ca D))).run Try.prog W = .ok true W := fun W => by simpa using run_eq24 D D hD hD W
  clear hx5 hb5 j0 j1 j2 k05 k15 k25 kr hc hb5'
  go_wp2_with (first
    | (refine wpList_store_row rfl 24 _ _ rfl w6.heap.size (ca D) rfl rfl 24 _ (heap_alloc_new _ _) (i24 hD) (by rw [ca_size, hD]; rfl) (ca_one _) ?_; rw [World.setRow_alloc_new])
    | (refine wpList_load_row rfl 24 _ rfl w5.heap.size rfl 24 (ca D) (0, 0) _ (al hy _) Try.underlying24 rfl (i24 hD) ?_)
    | (refine wpList_load_row rfl 24 _ rfl w6.heap.size rfl 24 (ca D) (0, 0) _ (heap_alloc_new _ _) Try.underlying24 rfl (i24 hD) ?_))
  refine (awake_any _).mono ?_
  rintro e w7 ⟨rfl, hc⟩
  go_wp2_with fail
  go_ret
  have hb7 := hb6.alloc hb6.size (.cells (ca D) 24)
  exact ⟨rfl, hb7.trans (hc.mono hb7.size)⟩
end Go.Proofs.Ytgibkebdkhildaa
