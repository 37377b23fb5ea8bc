import Derived.Test.YtgibkebdkhildaaJm
import Derived.Deep.RegionHeld3
namespace Go.Proofs.Ytgibkebdkhildaa
open Go.RowKit
set_option linter.unusedVariables false
set_option linter.unusedSimpArgs false

theorem kc {w w1 : World} {a : Addr} {v : Value} (hb : Below w.heap.size w w1) (h : w.cell? a = some v) : w1.cell? a = some v := by
  rw [hb.cell (World.block_lt_of_cell? w _ h)]; exact h

/-- one round of the reference's PutBytes -/
theorem wr64 {x : Int} (h0 : -9223372036854775808 ≤ x) (h1 : x ≤ 9223372036854775807) : IntKind.i64.wrap x = x := by
  simp [IntKind.wrap, IntKind.signed, IntKind.bits]
  omega
theorem bcell {W w1 : World} (hb : Below W.heap.size W w1) : (∀ b o, b < W.heap.size → w1.cell? ⟨b, o, none⟩ = W.cell? ⟨b, o, none⟩) ∧ (∀ b o, b < W.heap.size → w1.frozen? ⟨b, o, none⟩ = W.frozen? ⟨b, o, none⟩) :=
  ⟨fun b o h => hb.cell h, fun b o h => hb.frozen h⟩
theorem kf {w w1 : World} {a : Addr} {v : Value} (hb : Below w.heap.size w w1) (h : w.cell? a = some v) (hf : w.frozen? a = false) : w1.frozen? a = false := by
  rw [hb.frozen (World.block_lt_of_cell? w _ h)]; exact hf

set_option maxRecDepth 20000 in
set_option maxHeartbeats 4000000 in
theorem rputb_ok (C : List Int) (hC : C.length = 8) (hw : ∀ x ∈ C, 0 ≤ x ∧ x ≤ 18446744073709551615) (a n : Nat) (n0 : 1 ≤ n) (n1 : n ≤ 8) (a1 : a + n ≤ 64) (v : Int) (v0 : 0 ≤ v) (v1 : v ≤ 18446744073709551615) (w : World) :
    Calls Try.prog 25 #[.agg (ca C), .int .i64 a, .int .i64 n, .int .u64 v] w fun e w' => e = .returned (.tuple #[.agg (ca (puF C a v n)), .int .i64 0]) ∧ Below w.heap.size w w' := by
  have h0 := heap_alloc_new w (.cells (ca C) 24)
  have hok : decide (okB a n) = true := decide_eq_true (by unfold okB; omega)
  have hz0 := h2 w (.cells (ca C) 24) (.cells #[.int .u64 0, .int .u64 0, .int .u64 0, .int .u64 0, .int .u64 0, .int .u64 0, .int .u64 0, .int .u64 0] 24)
  have hb0 := ((Below.refl w.heap.size w).alloc (Nat.le_refl _) (.cells (ca C) 24)).alloc (by simp) (.cells #[.int .u64 0, .int .u64 0, .int .u64 0, .int .u64 0, .int .u64 0, .int .u64 0, .int .u64 0, .int .u64 0] 24)
  have hr0 := al h0 (.cells #[.int .u64 0, .int .u64 0, .int .u64 0, .int .u64 0, .int .u64 0, .int .u64 0, .int .u64 0, .int .u64 0] 24)
  go_enter Try.func25, Try.ntmps25
  go_wp2_with fail
  refine (in_any _ _ (by omega) (by omega) (by omega) (by omega) _).mono ?_
  rintro e w' ⟨rfl, rfl⟩
  rw [hok]
  go_wp2_with fail
  go_loopw [3, 10] (fun v' i wr => ∃ (k : Nat) (D : List Int), k ≤ n ∧ i = .int .i64 k ∧ v' = .int .u64 (v / 256 ^ k) ∧ D = jnF (pbTo C a v k) ∧ wr.heap[w.heap.size]? = some (.cells (ca D) 24 (0, 0)) ∧ wr.heap[w.heap.size + 1]? = some (.cells #[.int .u64 0, .int .u64 0, .int .u64 0, .int .u64 0, .int .u64 0, .int .u64 0, .int .u64 0, .int .u64 0] 24 (0, 0)) ∧ Below w.heap.size w wr) (fun _ i _ => n - (intOf i).toNat)
  case atStart => exact ⟨0, C, by omega, rfl, by simp, by rw [pbTo_zero]; exact (sp_jn C hC hw).symm, hr0, hz0, hb0⟩
  case round =>
    clear hr0 hz0 hb0
    obtain ⟨k, D, hk, rfl, rfl, hD, hr, hz, hb⟩ := hrel
    by_cases hlt : k < n
    · have hDl : D.length = 8 := by rw [hD]; exact jnF_len _
      have hDw : ∀ x ∈ D, 0 ≤ x ∧ x ≤ 18446744073709551615 := by rw [hD]; exact jnF_wf (pbTo_byte C a v k)
      have LAW := hid (round_law C a v k (by omega))
      have SET := hid (round_set C a v k (by omega))
      have yn : v / 256 ^ k / 256 = v / 256 ^ (k + 1) := by rw [Int.pow_succ, Int.ediv_ediv_of_nonneg (Int.le_of_lt (Int.pow_pos (by omega)))]
      have HYN := hid yn
      clear yn
      have y0 : 0 ≤ v / 256 ^ k := Int.ediv_nonneg v0 (Int.le_of_lt (Int.pow_pos (by omega)))
      have y1 : v / 256 ^ k ≤ 18446744073709551615 := Int.le_trans (Int.ediv_le_self _ v0) v1
      generalize hVe : v / 256 ^ k = V at *
      have tV2 : V.tdiv 256 = V / 256 := Int.tdiv_eq_ediv_of_nonneg y0
      clear hVe
      have hql : (a + k) / 8 < 8 := by omega
      have hcell : wr.cell? ⟨w.heap.size, (a + k) / 8, none⟩ = some (.int .u64 (D.getD ((a + k) / 8) 0)) := by
        rw [cell_of_row _ _ _ _ _ _ hr, ca_get D _ (by omega)]
        simp
      have hfr := frozen_of_row wr w.heap.size ((a + k) / 8) _ _ hr
      have hall : ∀ i, i < 8 → wr.cell? ⟨w.heap.size, i, none⟩ = some (.int .u64 (D.getD i 0)) := by
        intro i hi
        rw [cell_of_row _ _ _ _ _ _ hr, ca_get D _ (by omega)]
        simp
      have td : ((a : Int) + (k : Int)).tdiv 8 = ((a : Int) + (k : Int)) / 8 := Int.tdiv_eq_ediv_of_nonneg (by omega)
      have tm : ((a : Int) + (k : Int)).tmod 8 = ((a : Int) + (k : Int)) % 8 := Int.tmod_eq_emod_of_nonneg (by omega)
      have tV : V.tmod 256 = V % 256 := Int.tmod_eq_emod_of_nonneg y0
      have hq : (((a : Int) + (k : Int)) / 8).toNat = (a + k) / 8 := by omega
      have hq0 : (0 : Int) ≤ ((a : Int) + (k : Int)) / 8 := by omega
      have hq1 : ((a : Int) + (k : Int)) / 8 < 8 := by omega
      have hs0 : (0 : Int) ≤ (a : Int) + (k : Int) := by omega
      have hs1 : (a : Int) + (k : Int) < 64 := by omega
      have hs2 : (a : Int) + (k : Int) < 8 * 8 := by omega
      have hwr : IntKind.i64.wrap ((a : Int) + (k : Int)) = (a : Int) + (k : Int) := wr64 (by omega) (by omega)
      have hwq : IntKind.i64.wrap (((a : Int) + (k : Int)) / 8) = ((a : Int) + (k : Int)) / 8 := wr64 (by omega) (by omega)
      have hwt : IntKind.i64.wrap (((a : Int) + (k : Int)).tdiv 8) = ((a : Int) + (k : Int)) / 8 := by rw [td]; exact hwq
      generalize hX : D.getD ((a + k) / 8) 0 = X at *
      have HC := hid (And.intro hr (And.intro hz hall))
      have HDD := hid hD
      clear hr hz hall hD
      match D, hDl with
      | [d0, d1, d2, d3, d4, d5, d6, d7], _ =>
      have q0 := HC.out.2.2 0 (by omega)
      have q1 := HC.out.2.2 1 (by omega)
      have q2 := HC.out.2.2 2 (by omega)
      have q3 := HC.out.2.2 3 (by omega)
      have q4 := HC.out.2.2 4 (by omega)
      have q5 := HC.out.2.2 5 (by omega)
      have q6 := HC.out.2.2 6 (by omega)
      have q7 := HC.out.2.2 7 (by omega)
      simp only [List.getD_cons_zero, List.getD_cons_succ] at q0 q1 q2 q3 q4 q5 q6 q7
      have ecast : ((a : Int) + (k : Int)) = ((a + k : Nat) : Int) := by omega
      have HE := hid ecast
      clear ecast
      have hone : ∀ W, Calls Try.prog 39 #[.agg #[.int .u64 d0, .int .u64 d1, .int .u64 d2, .int .u64 d3, .int .u64 d4, .int .u64 d5, .int .u64 d6, .int .u64 d7], .int .i64 ((a : Int) + (k : Int))] W fun e w' => e = .returned (.int .u64 (spB [d0, d1, d2, d3, d4, d5, d6, d7] (a + k))) ∧ Below W.heap.size W w' := by
        intro W
        rw [HE.out]
        exact one_any [d0, d1, d2, d3, d4, d5, d6, d7] rfl hDw (a + k) (by omega) W
      have HONE := hid hone
      clear hone
      go_wp2_with fail
      have hNlt : w.heap.size < wr.heap.size := World.block_lt_of_cell? wr _ hcell
      go_region_with (first | (go_at_call 39; refine (HONE.out _).mono ?_; rintro e w5 ⟨rfl, hb7⟩; have z1 := kc (w := wr.drew) hb7 hcell; have z2 := kf (w := wr.drew) hb7 hcell hfr))
      all_goals
        go_wp2_with fail
        have L := LAW.out
        rw [← HDD.out, hX] at L
        have S1 := SET.out
        rw [← HDD.out] at S1
        refine ⟨⟨k + 1, jnF (pbTo C a v (k + 1)), by omega, by go_num, by rw [HYN.out], rfl, ?_, ?_, ?_⟩, by simp [intOf]; omega⟩
        · rw [L, heap_setCell_same w5 _ _ _ _ _ (hbk (w := wr.drew) hb7 HC.out.1), S1]
        · rw [heap_setCell_other w5 _ _ _ (by simp)]
          exact hbk (w := wr.drew) hb7 HC.out.2.1
        · exact (hb.drew.trans (hb7.mono hb.size)).setCell (Nat.le_refl _) _
    · obtain rfl : k = n := by omega
      have hl4 : (puF C a v k).length = 8 := jnF_len _
      rw [hD, show jnF (pbTo C a v k) = puF C a v k from rfl] at hr
      go_wp2_with (first
        | (refine wpList_load_row rfl 24 _ rfl w.heap.size rfl 24 (ca (puF C a v k)) (0, 0) _ hr Try.underlying24 rfl (i24 hl4) ?_)
        | (refine wpList_store_row rfl 24 _ _ rfl (w.heap.size + 1) (ca (puF C a v k)) rfl rfl 24 #[.int .u64 0, .int .u64 0, .int .u64 0, .int .u64 0, .int .u64 0, .int .u64 0, .int .u64 0, .int .u64 0] hz (i24 hl4) (by rw [ca_size, hl4]; rfl) (ca_one _) ?_))
      refine bodyPost_ret (results_cell_tmp (p := 8) (q := 9) rfl _ _ (w.heap.size + 1) 24 (ca (puF C a v k)) (0, 0) 8 22 rfl (setRow_heap _ _ _ _ _ _ hz) Try.underlying24 (i24 hl4)) rfl ⟨rfl, ?_⟩
      exact Below.setRow hb (by omega) _
end Go.Proofs.Ytgibkebdkhildaa
