import Derived.Test.YtgibkebdkhildaaI
namespace Go.Proofs.Ytgibkebdkhildaa
open Go.RowKit
set_option linter.unusedVariables false
set_option linter.unusedSimpArgs false

def pbTo (C : List Int) (a : Nat) (v : Int) (n : Nat) : List Int := (List.range 64).map fun j => if a ≤ j ∧ j < a + n then v / 2 ^ (8 * (j - a)) % 256 else spB C j
theorem pbTo_len (C : List Int) (a : Nat) (v : Int) (n : Nat) : (pbTo C a v n).length = 64 := by simp [pbTo]
theorem pbTo_zero (C : List Int) (a : Nat) (v : Int) : pbTo C a v 0 = spF C := by
  unfold pbTo spF
  apply List.map_congr_left
  intro j _
  rw [if_neg (by omega)]
theorem pbTo_set (C : List Int) (a : Nat) (v : Int) (n : Nat) (h : a + n < 64) : (ca (pbTo C a v n)).setIfInBounds (a + n) (.int .u64 (v / 2 ^ (8 * n) % 256)) = ca (pbTo C a v (n + 1)) := by
  apply Array.ext_getElem?
  intro i
  rw [Array.getElem?_setIfInBounds]
  by_cases hi : i < 64
  · by_cases hn : a + n = i
    · subst hn
      have h1 : a ≤ a + n ∧ a + n < a + (n + 1) := by omega
      have h2 : a + n - a = n := by omega
      simp [ca, pbTo, h, h2]
    · have h1 : (a ≤ i ∧ i < a + (n + 1)) ↔ (a ≤ i ∧ i < a + n) := by omega
      simp [ca, pbTo, hn, hi, h1]
  · have hn : a + n ≠ i := by omega
    simp [ca, pbTo, hn, hi]
theorem pbTo_byte (C : List Int) (a : Nat) (v : Int) (n : Nat) : ∀ x ∈ pbTo C a v n, 0 ≤ x ∧ x < 256 := by
  intro x hx
  obtain ⟨j, _, rfl⟩ := List.mem_map.1 hx
  split
  · exact ⟨Int.emod_nonneg _ (by omega), Int.emod_lt_of_pos _ (by omega)⟩
  · exact spB_lt C j
def puF (C : List Int) (a : Nat) (v : Int) (n : Nat) : List Int := jnF (pbTo C a v n)
theorem jnF_len (B : List Int) : (jnF B).length = 8 := by simp [jnF]

set_option maxHeartbeats 2000000 in
theorem putb_ok (C : List Int) (hC : C.length = 8) (hw : ∀ x ∈ C, 0 ≤ x ∧ x ≤ 18446744073709551615) (a n : Nat) (n0 : 1 ≤ n) (n1 : n ≤ 8) (a1 : a + n ≤ 64) (v : Int) (v0 : 0 ≤ v) (v1 : v ≤ 18446744073709551615) (w : World) :
    Calls Try.prog 24 #[.agg (ca C), .int .i64 a, .int .i64 n, .int .u64 v] w fun e w' => e = .returned (.tuple #[.agg (ca (puF C a v n)), .int .i64 0]) ∧ Below w.heap.size w w' := by
  have h0 := heap_alloc_new w (.cells (ca C) 24)
  have hl : (spF C).length = 64 := by simp [spF]
  have hok : decide (okB a n) = true := decide_eq_true (by unfold okB; omega)
  have hz0 := h2 w (.cells (ca C) 24) (.cells #[.int .u64 0, .int .u64 0, .int .u64 0, .int .u64 0, .int .u64 0, .int .u64 0, .int .u64 0, .int .u64 0] 24)
  have hb0 := ((Below.refl w.heap.size w).alloc (Nat.le_refl _) (.cells (ca C) 24)).alloc (by simp) (.cells #[.int .u64 0, .int .u64 0, .int .u64 0, .int .u64 0, .int .u64 0, .int .u64 0, .int .u64 0, .int .u64 0] 24)
  go_enter Try.func24, Try.ntmps24
  go_wp2_with fail
  refine (wrong_any _ _ (by omega) (by omega) (by omega) (by omega) _).mono ?_
  rintro e w' ⟨rfl, rfl⟩
  rw [hok]
  go_wp2_with (refine wpList_load_row rfl 24 _ rfl w.heap.size rfl 24 (ca C) (0, 0) _ (al h0 _) Try.underlying24 rfl (i24 hC) ?_)
  refine (spread_any C hC hw _).mono ?_
  rintro e w1 ⟨rfl, hc⟩
  have hz1 := hbk hc hz0
  have hb1 := hb0.trans (hc.mono hb0.size)
  go_wp2_with (refine wpList_store_row rfl 58 _ _ rfl w1.heap.size (ca (spF C)) rfl rfl 58 _ (heap_alloc_new w1 _) (i58 hl) (by rw [ca_size, hl]; rfl) (ca_one _) ?_)
  rw [World.setRow_alloc_new]
  have hr := heap_alloc_new w1 (.cells (ca (spF C)) 58)
  have hz2 := al hz1 (.cells (ca (spF C)) 58)
  have hb2 := hb1.alloc hb1.size (.cells (ca (spF C)) 58)
  have hN : w.heap.size + 1 < w1.heap.size := by
    rcases Nat.lt_or_ge (w.heap.size + 1) w1.heap.size with h | h
    · exact h
    · rw [Array.getElem?_eq_none h] at hz1; cases hz1
  generalize w1.alloc (.cells (ca (spF C)) 58) = W at *
  generalize w1.heap.size = N at *
  clear hc hb0 hz0 hz1 hb1
  go_loopw [19] (fun i wr => ∃ k : Nat, k ≤ n ∧ i = .int .i64 k ∧ wr.heap[N]? = some (.cells (ca (pbTo C a v k)) 58 (0, 0)) ∧ wr.heap[w.heap.size + 1]? = some (.cells #[.int .u64 0, .int .u64 0, .int .u64 0, .int .u64 0, .int .u64 0, .int .u64 0, .int .u64 0, .int .u64 0] 24 (0, 0)) ∧ Below w.heap.size w wr) (fun i _ => n - (intOf i).toNat)
  case atStart => exact ⟨0, by omega, rfl, by rw [pbTo_zero]; exact hr, hz2, hb2⟩
  case round =>
    clear hr hz2 hb2
    obtain ⟨k, hk, rfl, hr, hz, hb⟩ := hrel
    by_cases hlt : k < n
    · have hidx : ((a : Int) + (k : Int)).toNat = a + k := by omega
      have hn : a + k < 64 := by omega
      have hcell : wr.cell? ⟨N, a + k, none⟩ = some (.int .u64 (spB C (a + k))) := by
        rw [cell_of_row _ _ _ _ _ _ hr]
        simp [ca, pbTo, hn]
      have hfr := frozen_of_row wr N (a + k) _ _ hr
      have HSET := hid (pbTo_set C a v k hn)
      go_wp2_with fail
      refine ⟨⟨k + 1, by omega, by go_num, ?_, ?_, hb.setCell (by simp; omega) _⟩, by simp [intOf]; omega⟩
      · rw [heap_setCell_same wr _ _ _ _ _ hr, HSET.out]
      · rw [heap_setCell_other wr _ _ _ (by simp; omega)]
        exact hz
    · obtain rfl : k = n := by omega
      have hl3 := pbTo_len C a v k
      go_wp2_with (refine wpList_load_row rfl 58 _ rfl N rfl 58 (ca (pbTo C a v k)) (0, 0) _ hr Try.underlying58 rfl (i58 hl3) ?_)
      refine (join_any _ hl3 (pbTo_byte C a v k) _).mono ?_
      rintro e w2 ⟨rfl, hc⟩
      have hz2 := hbk hc hz
      have hb2 := hb.trans (hc.mono hb.size)
      have hl4 : (puF C a v k).length = 8 := jnF_len _
      rw [show jnF (pbTo C a v k) = puF C a v k from rfl]
      go_wp2_with (refine wpList_store_row rfl 24 _ _ rfl (w.heap.size + 1) (ca (puF C a v k)) rfl rfl 24 #[.int .u64 0, .int .u64 0, .int .u64 0, .int .u64 0, .int .u64 0, .int .u64 0, .int .u64 0, .int .u64 0] hz2 (i24 hl4) (by rw [ca_size, hl4]; rfl) (ca_one _) ?_)
      refine bodyPost_ret (results_cell_tmp (p := 8) (q := 9) rfl _ _ (w.heap.size + 1) 24 (ca (puF C a v k)) (0, 0) 8 22 rfl (setRow_heap _ _ _ _ _ _ hz2) Try.underlying24 (i24 hl4)) rfl ⟨rfl, ?_⟩
      exact Below.setRow hb2 (by omega) _
set_option maxHeartbeats 2000000 in
theorem putb_bad (C : List Int) (a n v : Int) (a0 : -9223372036854775808 ≤ a) (a1 : a ≤ 9223372036854775807) (n0 : -9223372036854775808 ≤ n) (n1 : n ≤ 9223372036854775807) (hok : decide (okB a n) = false) (w : World) :
    Calls Try.prog 24 #[.agg (ca C), .int .i64 a, .int .i64 n, .int .u64 v] w fun e w' => e = .returned (.tuple #[.agg (ca [0, 0, 0, 0, 0, 0, 0, 0]), .int .i64 2]) ∧ Below w.heap.size w w' := by
  go_enter Try.func24, Try.ntmps24
  go_wp2_with fail
  refine (wrong_any _ _ (by omega) (by omega) (by omega) (by omega) _).mono ?_
  rintro e w' ⟨rfl, rfl⟩
  rw [hok]
  go_wp2_with fail
  refine bodyPost_ret (v := .tuple #[.agg (ca [0, 0, 0, 0, 0, 0, 0, 0]), .int .i64 2]) (by simp [results, Try.results24, go_sem, ca]) rfl ⟨rfl, ?_⟩
  repeat (first | exact Below.refl _ _ | refine Below.alloc ?_ (by simp <;> omega) _ | refine Below.drew ?_ | refine Below.setCell ?_ (by simp <;> omega) _)
set_option maxHeartbeats 2000000 in
theorem rputb_bad (C : List Int) (a n v : Int) (a0 : -9223372036854775808 ≤ a) (a1 : a ≤ 9223372036854775807) (n0 : -9223372036854775808 ≤ n) (n1 : n ≤ 9223372036854775807) (hok : decide (okB a n) = false) (w : World) :
    Calls Try.prog 25 #[.agg (ca C), .int .i64 a, .int .i64 n, .int .u64 v] w fun e w' => e = .returned (.tuple #[.agg (ca [0, 0, 0, 0, 0, 0, 0, 0]), .int .i64 2]) ∧ Below w.heap.size w w' := by
  go_enter Try.func25, Try.ntmps25
  go_wp2_with fail
  refine (in_any _ _ (by omega) (by omega) (by omega) (by omega) _).mono ?_
  rintro e w' ⟨rfl, rfl⟩
  rw [hok]
  go_wp2_with fail
  refine bodyPost_ret (v := .tuple #[.agg (ca [0, 0, 0, 0, 0, 0, 0, 0]), .int .i64 2]) (by simp [results, Try.results25, go_sem, ca]) rfl ⟨rfl, ?_⟩
  repeat (first | exact Below.refl _ _ | refine Below.alloc ?_ (by simp <;> omega) _ | refine Below.drew ?_ | refine Below.setCell ?_ (by simp <;> omega) _)
end Go.Proofs.Ytgibkebdkhildaa
