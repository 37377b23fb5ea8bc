/- Turned words: the reference's turned (41), Sum (29). -/
import Derived.Test.YtgibkebdkhildaaP
namespace Go.Proofs.Ytgibkebdkhildaa
open Go.RowKit
set_option linter.unusedVariables false
set_option linter.unusedSimpArgs false

theorem rotF_mod (v : Int) (k : Nat) (hk : k ≤ 64) : rotF v k = (v % 2 ^ (64 - k)) * 2 ^ k + v / 2 ^ (64 - k) := by
  unfold rotF
  have e : (18446744073709551616 : Int) = 2 ^ k * 2 ^ (64 - k) := by
    rw [← Int.pow_add, show k + (64 - k) = 64 by omega]; rfl
  have h := Int.mul_emod_mul_of_pos v (2 ^ (64 - k)) (show (0 : Int) < 2 ^ k from Int.pow_pos (by omega))
  rw [← e, Int.mul_comm (2 ^ k) v, Int.mul_comm (2 ^ k)] at h
  rw [h]
theorem rot_next (v : Int) (v0 : 0 ≤ v) (v1 : v ≤ 18446744073709551615) (k : Nat) (hk : k < 63) :
    rotF v k * 2 % 18446744073709551616 + rotF v k / 9223372036854775808 = rotF v (k + 1) := by
  rw [rotF_mod v k (by omega), rotF_mod v (k + 1) (by omega)]
  have eQ : (2 : Int) ^ (64 - k) = 2 * 2 ^ (63 - k) := by
    rw [show 64 - k = (63 - k) + 1 by omega, Int.pow_succ, Int.mul_comm]
  have eP : (2 : Int) ^ (k + 1) = 2 ^ k * 2 := Int.pow_succ 2 k
  have ePQ : (2 : Int) ^ k * 2 ^ (63 - k) = 9223372036854775808 := by
    rw [← Int.pow_add, show k + (63 - k) = 63 by omega]; rfl
  have hP : (0 : Int) < 2 ^ k := Int.pow_pos (by omega)
  have hQ : (0 : Int) < 2 ^ (63 - k) := Int.pow_pos (by omega)
  rw [show 64 - (k + 1) = 63 - k by omega, eQ, eP]
  generalize (2 : Int) ^ k = P at *
  generalize (2 : Int) ^ (63 - k) = Q at *
  have d1 := Int.mul_ediv_add_emod v (2 * Q)
  have l0 := Int.emod_nonneg v (show 2 * Q ≠ 0 by omega)
  have l1 := Int.emod_lt_of_pos v (show 0 < 2 * Q by omega)
  have h0 : 0 ≤ v / (2 * Q) := Int.ediv_nonneg v0 (by omega)
  have h1 : v / (2 * Q) < P := by
    refine Int.ediv_lt_of_lt_mul (by omega) ?_
    have : P * (2 * Q) = 18446744073709551616 := by rw [Int.mul_left_comm, ePQ]; rfl
    omega
  generalize v / (2 * Q) = h at *
  generalize v % (2 * Q) = l at *
  have d2 := Int.mul_ediv_add_emod l Q
  have m0 := Int.emod_nonneg l (show Q ≠ 0 by omega)
  have m1 := Int.emod_lt_of_pos l hQ
  have t0 : 0 ≤ l / Q := Int.ediv_nonneg l0 (by omega)
  have t1 : l / Q < 2 := Int.ediv_lt_of_lt_mul hQ (by omega)
  generalize l / Q = t at *
  generalize l % Q = m at *
  have ev : v = m + Q * (2 * h + t) := by
    rw [← d1, ← d2, Int.mul_add]
    have : 2 * Q * h = Q * (2 * h) := by rw [Int.mul_comm 2 Q, Int.mul_assoc]
    omega
  have q1 : v / Q = 2 * h + t := by
    rw [ev, Int.add_mul_ediv_left _ _ (by omega), Int.ediv_eq_zero_of_lt m0 m1, Int.zero_add]
  have q2 : v % Q = m := by
    rw [ev, Int.add_mul_emod_self_left, Int.emod_eq_of_lt m0 m1]
  rw [q1, q2]
  have e1 : l * P = t * 9223372036854775808 + m * P := by
    rw [← d2, Int.add_mul, Int.mul_comm Q t, Int.mul_assoc, Int.mul_comm Q P, ePQ]
  have e2 : m * (P * 2) = 2 * (m * P) := by rw [← Int.mul_assoc, Int.mul_comm]
  have b0 : 0 ≤ m * P := Int.mul_nonneg m0 (by omega)
  have b1 : m * P ≤ 9223372036854775808 - P := by
    have : m * P ≤ (Q - 1) * P := Int.mul_le_mul_of_nonneg_right (by omega) (by omega)
    rw [Int.sub_mul, Int.mul_comm Q P, ePQ] at this
    omega
  rw [e1, e2]
  generalize m * P = M at *
  clear d1 d2 ev q1 q2 e1 e2 ePQ
  rcases (show t = 0 ∨ t = 1 by omega) with rfl | rfl <;> omega
theorem rotF_zero (v : Int) (v0 : 0 ≤ v) (v1 : v ≤ 18446744073709551615) : rotF v 0 = v := by
  rw [rotF_mod v 0 (by omega)]
  simp only [Nat.sub_zero, Int.pow_zero, Int.mul_one]
  rw [show (2 : Int) ^ 64 = 18446744073709551616 from rfl]
  omega

set_option maxHeartbeats 1000000 in
/-- headgateref04.turned -/
theorem turned_any (v : Int) (v0 : 0 ≤ v) (v1 : v ≤ 18446744073709551615) (n : Nat) (hn : n < 63) (w : World) :
    Calls Try.prog 41 #[.int .u64 v, .int .i64 n] w fun e w' => e = .returned (.int .u64 (rotF v n)) ∧ w = w' := by
  go_enter Try.func41, Try.ntmps41
  go_wp2_with fail
  go_loopw [0, 5] (fun x i wr => ∃ k : Nat, k ≤ n ∧ i = .int .i64 k ∧ x = .int .u64 (rotF v k) ∧ w = wr) (fun _ i _ => n - (intOf i).toNat)
  case atStart => exact ⟨0, by omega, rfl, by rw [rotF_zero v v0 v1], rfl⟩
  case round =>
    obtain ⟨k, hk, rfl, rfl, rfl⟩ := hrel
    obtain ⟨r0, r1⟩ := rotF_lt v0 v1 (show k < 64 by omega)
    obtain ⟨s0, s1⟩ := rotF_lt v0 v1 (show k + 1 < 64 by omega)
    have hnx := rot_next v v0 v1 k (by omega)
    have HNX := hid hnx
    by_cases hlt : k < n
    · have i0 : (0 : Int) ≤ (k : Int) := by omega
      have i1 : (k : Int) < (n : Int) := by omega
      have i2 : (k : Int) < 63 := by omega
      clear hnx
      generalize hYe : rotF v (k + 1) = Y at *
      have HT := hid hYe.symm
      clear hYe
      generalize rotF v k = X at *
      go_wp2_with fail
      refine ⟨⟨k + 1, by omega, by go_num, ?_, trivial⟩, by simp [intOf]; omega⟩
      rw [← HT.out, ← HNX.out, IntKind.wrap_u64, IntKind.wrap_u64]
      congr 1
      exact Int.emod_eq_of_lt (by omega) (by have := HNX.out; omega)
    · obtain rfl : k = n := by omega
      clear hnx HNX
      go_wp2_with fail
      go_ret
      exact ⟨rfl, rfl⟩

/-- the page that a number fills -/
def flTo (v : Int) (n : Nat) : List Int := (List.range 8).map fun j => if j < n then rotF v (8 * j) else 0
def flF (v : Int) : List Int := flTo v 8
theorem flTo_len (v : Int) (n : Nat) : (flTo v n).length = 8 := by simp [flTo]
theorem flTo_set (v : Int) (n : Nat) (h : n < 8) : (ca (flTo v n)).setIfInBounds n (.int .u64 (rotF v (8 * n))) = ca (flTo v (n + 1)) := by
  apply Array.ext_getElem?
  intro i
  rw [Array.getElem?_setIfInBounds]
  by_cases hi : i < 8
  · by_cases hn : n = i
    · subst hn
      simp [ca, flTo, h]
    · have h1 : i < n + 1 ↔ i < n := by omega
      simp [ca, flTo, hn, hi, h1]
  · have hn : n ≠ i := by omega
    simp [ca, flTo, hn, hi]
theorem flTo_zero (v : Int) : ca (flTo v 0) = #[.int .u64 0, .int .u64 0, .int .u64 0, .int .u64 0, .int .u64 0, .int .u64 0, .int .u64 0, .int .u64 0] := by simp [ca, flTo, List.range, List.range.loop]

set_option maxHeartbeats 2000000 in
theorem fill_any (v : Int) (v0 : 0 ≤ v) (v1 : v ≤ 18446744073709551615) (w : World) :
    Calls Try.prog 26 #[.int .u64 v] w fun e w' => e = .returned (.agg (ca (flF v))) ∧ Below w.heap.size w w' := by
  go_enter Try.func26, Try.ntmps26
  go_wp2_with fail
  go_loopw [5] (fun i wr => ∃ k : Nat, k ≤ 8 ∧ i = .int .i64 k ∧ wr.heap[w.heap.size + 1]? = some (.cells (ca (flTo v k)) 24 (0, 0)) ∧ wr.heap[w.heap.size]? = some (.cells (ca (flTo v 0)) 24 (0, 0)) ∧ Below w.heap.size w wr) (fun i _ => 8 - (intOf i).toNat)
  case atStart =>
    refine ⟨0, by omega, rfl, ?_, ?_, ?_⟩
    · rw [flTo_zero]
      exact h2 w _ _
    · rw [flTo_zero]
      exact al (heap_alloc_new w _) _
    · repeat (first | exact Below.refl _ _ | refine Below.alloc ?_ (by simp <;> omega) _)
  case round =>
    obtain ⟨k, hk, rfl, hr, hz, hb⟩ := hrel
    by_cases hlt : k < 8
    · have hcell : wr.cell? ⟨w.heap.size + 1, k, none⟩ = some (.int .u64 0) := by
        rw [cell_of_row _ _ _ _ _ _ hr]
        simp [ca, flTo, hlt]
      have hfr := frozen_of_row wr (w.heap.size + 1) k _ _ hr
      have i0 : (0 : Int) ≤ (k : Int) := by omega
      have i1 : (k : Int) < 8 := by omega
      go_wp2_with fail
      have hcall := rot_any v v0 v1 (8 * k) (by omega) wr
      rw [show ((8 * k : Nat) : Int) = 8 * (k : Int) from by omega] at hcall
      refine hcall.mono ?_
      rintro e w' ⟨rfl, rfl⟩
      go_wp2_with fail
      refine ⟨⟨k + 1, by omega, by go_num, ?_, ?_, hb.setCell (by simp) _⟩, by simp [intOf]; omega⟩
      · rw [heap_setCell_same wr _ _ _ _ _ hr, flTo_set v _ hlt]
      · rw [heap_setCell_other wr _ _ _ (by simp)]
        exact hz
    · obtain rfl : k = 8 := by omega
      have hl : (flTo v 8).length = 8 := flTo_len v 8
      have hl0 : (flTo v 0).length = 8 := flTo_len v 0
      go_wp2_with (first
        | (refine wpList_load_row rfl 24 _ rfl (w.heap.size + 1) rfl 24 (ca (flTo v 8)) (0, 0) _ hr Try.underlying24 rfl (i24 hl) ?_)
        | (refine wpList_store_row rfl 24 _ _ rfl w.heap.size (ca (flTo v 8)) rfl rfl 24 (ca (flTo v 0)) hz (i24 hl) (by rw [ca_size, ca_size, hl, hl0]) (ca_one _) ?_))
      refine bodyPost_ret (results_cell_row rfl _ _ w.heap.size 24 (ca (flTo v 8)) (0, 0) _ rfl (setRow_heap wr _ _ _ _ _ hz) Try.underlying24 rfl (i24 hl)) rfl ⟨rfl, ?_⟩
      exact Below.setRow hb (by omega) _

set_option maxHeartbeats 2000000 in
theorem rfill_any (v : Int) (v0 : 0 ≤ v) (v1 : v ≤ 18446744073709551615) (w : World) :
    Calls Try.prog 27 #[.int .u64 v] w fun e w' => e = .returned (.agg (ca (flF v))) ∧ Below w.heap.size w w' := by
  go_enter Try.func27, Try.ntmps27
  go_wp2_with fail
  go_loopw [4] (fun i wr => ∃ k : Nat, k ≤ 8 ∧ i = .int .i64 k ∧ wr.heap[w.heap.size + 1]? = some (.cells (ca (flTo v k)) 24 (0, 0)) ∧ wr.heap[w.heap.size]? = some (.cells (ca (flTo v 0)) 24 (0, 0)) ∧ Below w.heap.size w wr) (fun i _ => 8 - (intOf i).toNat)
  case atStart =>
    refine ⟨0, by omega, rfl, ?_, ?_, ?_⟩
    · rw [flTo_zero]
      exact h2 w _ _
    · rw [flTo_zero]
      exact al (heap_alloc_new w _) _
    · repeat (first | exact Below.refl _ _ | refine Below.alloc ?_ (by simp <;> omega) _)
  case round =>
    obtain ⟨k, hk, rfl, hr, hz, hb⟩ := hrel
    by_cases hlt : k < 8
    · have hcell : wr.cell? ⟨w.heap.size + 1, k, none⟩ = some (.int .u64 0) := by
        rw [cell_of_row _ _ _ _ _ _ hr]
        simp [ca, flTo, hlt]
      have hfr := frozen_of_row wr (w.heap.size + 1) k _ _ hr
      have i0 : (0 : Int) ≤ (k : Int) := by omega
      have i1 : (k : Int) < 8 := by omega
      go_wp2_with fail
      have hcall := turned_any v v0 v1 (8 * k) (by omega) wr
      rw [show ((8 * k : Nat) : Int) = 8 * (k : Int) from by omega] at hcall
      refine hcall.mono ?_
      rintro e w' ⟨rfl, rfl⟩
      go_wp2_with fail
      refine ⟨⟨k + 1, by omega, by go_num, ?_, ?_, hb.setCell (by simp) _⟩, by simp [intOf]; omega⟩
      · rw [heap_setCell_same wr _ _ _ _ _ hr, flTo_set v _ hlt]
      · rw [heap_setCell_other wr _ _ _ (by simp)]
        exact hz
    · obtain rfl : k = 8 := by omega
      have hl : (flTo v 8).length = 8 := flTo_len v 8
      have hl0 : (flTo v 0).length = 8 := flTo_len v 0
      go_wp2_with (first
        | (refine wpList_load_row rfl 24 _ rfl (w.heap.size + 1) rfl 24 (ca (flTo v 8)) (0, 0) _ hr Try.underlying24 rfl (i24 hl) ?_)
        | (refine wpList_store_row rfl 24 _ _ rfl w.heap.size (ca (flTo v 8)) rfl rfl 24 (ca (flTo v 0)) hz (i24 hl) (by rw [ca_size, ca_size, hl, hl0]) (ca_one _) ?_))
      refine bodyPost_ret (results_cell_row rfl _ _ w.heap.size 24 (ca (flTo v 8)) (0, 0) _ rfl (setRow_heap wr _ _ _ _ _ hz) Try.underlying24 rfl (i24 hl)) rfl ⟨rfl, ?_⟩
      exact Below.setRow hb (by omega) _

set_option maxHeartbeats 2000000 in
theorem rsum_any (C : List Int) (hC : C.length = 8) (hw : ∀ x ∈ C, 0 ≤ x ∧ x ≤ 18446744073709551615) (w : World) :
    Calls Try.prog 29 #[.agg (ca C)] w fun e w' => e = .returned (.int .u64 (smF C)) ∧ Below w.heap.size w w' := by
  have h0 := heap_alloc_new w (.cells (ca C) 24)
  go_enter Try.func29, Try.ntmps29
  go_wp2_with fail
  go_loopw [3, 4] (fun v i wr => ∃ k : Nat, k ≤ 8 ∧ i = .int .i64 k ∧ v = .int .u64 (smTo C k) ∧ wr.heap[w.heap.size]? = some (.cells (ca C) 24 (0, 0)) ∧ Below w.heap.size w wr) (fun _ i _ => 8 - (intOf i).toNat)
  case atStart => exact ⟨0, by omega, rfl, rfl, h0, (Below.refl _ _).alloc (Nat.le_refl _) _⟩
  case round =>
    clear h0
    obtain ⟨k, hk, rfl, rfl, hr, hb⟩ := hrel
    by_cases hlt : k < 8
    · have hlt' : k < C.length := by omega
      have hcell : wr.cell? ⟨w.heap.size, k, none⟩ = some (.int .u64 (C.getD k 0)) := by
        rw [cell_of_row _ _ _ _ _ _ hr, ca_get C _ (by omega)]
        simp
      obtain ⟨x0, x1⟩ := hw (C.getD k 0) (by rw [List.getD_eq_getElem?_getD, List.getElem?_eq_getElem hlt']; exact List.getElem_mem hlt')
      have hS : smTo C (k + 1) = (rotF (smTo C k) 7 + C.getD k 0) % 18446744073709551616 := rfl
      obtain ⟨s0, s1⟩ := smTo_lt C k
      obtain ⟨r0, r1⟩ := rotF_lt s0 s1 (show 7 < 64 by omega)
      have HS := hid hS
      clear hS
      have HR := hid hr
      clear hr
      have i0 : (0 : Int) ≤ (k : Int) := by omega
      have i1 : (k : Int) < 8 := by omega
      generalize hx : C.getD k 0 = x at *
      generalize smTo C k = S at *
      have hcall : ∀ W, Calls Try.prog 41 #[.int .u64 S, .int .i64 7] W fun e w' => e = .returned (.int .u64 (rotF S 7)) ∧ W = w' := fun W => turned_any S s0 s1 7 (by omega) W
      have HC := hid hcall
      clear hcall
      generalize rotF S 7 = R at *
      go_wp2_with fail
      go_region_with (first | (go_at_call 41; refine (HC.out _).mono ?_; rintro e w' ⟨rfl, rfl⟩))
      all_goals
        go_wp2_with fail
        exact ⟨⟨k + 1, by omega, by go_num, by rw [HS.out, IntKind.wrap_u64], HR.out, hb.drew⟩, by simp [intOf]; omega⟩
    · obtain rfl : k = 8 := by omega
      go_wp2_with fail
      go_ret
      exact ⟨rfl, hb⟩
end Go.Proofs.Ytgibkebdkhildaa
