import Derived.Test.YtgibkebdkhildaaH
namespace Go.Proofs.Ytgibkebdkhildaa
open Go.RowKit
set_option linter.unusedVariables false
set_option linter.unusedSimpArgs false

/-- bytes, joined to words -/
def jnW (B : List Int) (i : Nat) : Nat → Int
  | 0 => 0
  | k + 1 => jnW B i k + B.getD (8 * i + k) 0 * 256 ^ k
def jnF (B : List Int) : List Int := (List.range 8).map fun i => jnW B i 8
/-- after n bytes -/
def jnTo (B : List Int) (n : Nat) : List Int := (List.range 8).map fun i => jnW B i (min 8 (n - 8 * i))
theorem jnTo_len (B : List Int) (n : Nat) : (jnTo B n).length = 8 := by simp [jnTo]
theorem jnTo_all (B : List Int) : jnTo B 64 = jnF B := by
  unfold jnTo jnF
  apply List.map_congr_left
  intro i hi
  have := List.mem_range.1 hi
  rw [show min 8 (64 - 8 * i) = 8 by omega]
theorem jnTo_get (B : List Int) (n : Nat) (hn : n < 64) : (ca (jnTo B n))[n / 8]? = some (.int .u64 (jnW B (n / 8) (n % 8))) := by
  have h : n / 8 < 8 := by omega
  simp [ca, jnTo, h]
  congr 1
  omega
theorem jnTo_set (B : List Int) (n : Nat) (hn : n < 64) : (ca (jnTo B n)).setIfInBounds (n / 8) (.int .u64 (jnW B (n / 8) (n % 8) + B.getD n 0 * 256 ^ (n % 8))) = ca (jnTo B (n + 1)) := by
  apply Array.ext_getElem?
  intro i
  rw [Array.getElem?_setIfInBounds]
  by_cases hi : i < 8
  · by_cases hq : n / 8 = i
    · subst hq
      have h1 : min 8 (n + 1 - 8 * (n / 8)) = n % 8 + 1 := by omega
      have h2 : 8 * (n / 8) + n % 8 = n := by omega
      simp [ca, jnTo, hi, h1, jnW, h2]
    · have h1 : min 8 (n + 1 - 8 * i) = min 8 (n - 8 * i) := by omega
      simp [ca, jnTo, hi, hq, h1]
  · have hq : n / 8 ≠ i := by omega
    simp [ca, jnTo, hi, hq]
theorem jnW_lt {B : List Int} (hB : ∀ x ∈ B, 0 ≤ x ∧ x < 256) (i k : Nat) : 0 ≤ jnW B i k ∧ jnW B i k < 256 ^ k := by
  induction k with
  | zero => simp [jnW]
  | succ k ih =>
    have hs : 0 ≤ B.getD (8 * i + k) 0 ∧ B.getD (8 * i + k) 0 < 256 := by
      rw [List.getD_eq_getElem?_getD]
      by_cases h : 8 * i + k < B.length
      · rw [List.getElem?_eq_getElem h]
        exact hB _ (List.getElem_mem h)
      · rw [List.getElem?_eq_none (Nat.le_of_not_lt h)]
        simp
    obtain ⟨s0, s1⟩ := hs
    have hp : (0 : Int) < 256 ^ k := Int.pow_pos (by omega)
    have e1 : B.getD (8 * i + k) 0 * 256 ^ k ≤ 255 * 256 ^ k := Int.mul_le_mul_of_nonneg_right (by omega) (Int.le_of_lt hp)
    have e0 : 0 ≤ B.getD (8 * i + k) 0 * 256 ^ k := Int.mul_nonneg s0 (Int.le_of_lt hp)
    unfold jnW
    rw [Int.pow_succ]
    omega
theorem jnTo_zero (B : List Int) : ca (jnTo B 0) = #[.int .u64 0, .int .u64 0, .int .u64 0, .int .u64 0, .int .u64 0, .int .u64 0, .int .u64 0, .int .u64 0] := by simp [ca, jnTo, jnW, List.range_succ]

set_option maxHeartbeats 2000000 in
theorem join_any (B : List Int) (hl : B.length = 64) (hB : ∀ x ∈ B, 0 ≤ x ∧ x < 256) (w : World) :
    Calls Try.prog 40 #[.agg (ca B)] w fun e w' => e = .returned (.agg (ca (jnF B))) ∧ Below w.heap.size w w' := by
  have h0 := heap_alloc_new w (.cells (ca B) 58)
  go_enter Try.func40, Try.ntmps40
  go_wp2_with (refine wpList_load_row rfl 58 _ rfl w.heap.size rfl 58 (ca B) (0, 0) _ (al (al h0 _) _) Try.underlying58 rfl (i58 hl) ?_)
  go_loopw [7] (fun i wr => ∃ k : Nat, k ≤ 64 ∧ i = .int .i64 k ∧ wr.heap[w.heap.size + 1 + 1]? = some (.cells (ca (jnTo B k)) 24 (0, 0)) ∧ wr.heap[w.heap.size + 1]? = some (.cells (ca (jnTo B 0)) 24 (0, 0)) ∧ Below w.heap.size w wr) (fun i _ => 64 - (intOf i).toNat)
  case atStart =>
    refine ⟨0, by omega, rfl, ?_, ?_, ?_⟩
    · rw [jnTo_zero]
      have := heap_alloc_new ((w.alloc (.cells (ca B) 58)).alloc (.cells #[.int .u64 0, .int .u64 0, .int .u64 0, .int .u64 0, .int .u64 0, .int .u64 0, .int .u64 0, .int .u64 0] 24)) (.cells #[.int .u64 0, .int .u64 0, .int .u64 0, .int .u64 0, .int .u64 0, .int .u64 0, .int .u64 0, .int .u64 0] 24)
      simpa using this
    · rw [jnTo_zero]
      have := al (heap_alloc_new (w.alloc (.cells (ca B) 58)) (.cells #[.int .u64 0, .int .u64 0, .int .u64 0, .int .u64 0, .int .u64 0, .int .u64 0, .int .u64 0, .int .u64 0] 24)) (.cells #[.int .u64 0, .int .u64 0, .int .u64 0, .int .u64 0, .int .u64 0, .int .u64 0, .int .u64 0, .int .u64 0] 24)
      simpa using this
    · repeat (first | exact Below.refl _ _ | refine Below.alloc ?_ (by simp <;> omega) _)
  case round =>
    obtain ⟨k, hk, rfl, hr, hz, hb⟩ := hrel
    by_cases hlt : k < 64
    · have hget := run_index58 B hl k hlt
      have hS : 0 ≤ B.getD k 0 ∧ B.getD k 0 < 256 := by
        rw [List.getD_eq_getElem?_getD, List.getElem?_eq_getElem (show k < B.length by omega)]
        exact hB _ (List.getElem_mem _)
      have hW := jnW_lt hB (k / 8) (k % 8)
      have hcell : wr.cell? ⟨w.heap.size + 1 + 1, k / 8, none⟩ = some (.int .u64 (jnW B (k / 8) (k % 8))) := by
        rw [cell_of_row _ _ _ _ _ _ hr]
        exact jnTo_get B k hlt
      have hfr := frozen_of_row wr (w.heap.size + 1 + 1) (k / 8) _ _ hr
      have hset := jnTo_set B k hlt
      have hor := or_put (X := jnW B (k / 8) (k % 8)) (S := B.getD k 0) (k := k % 8) (by omega) hW.1 hW.2 hS.1 hS.2
      have hq : ((k : Int) / 8).toNat = k / 8 := by omega
      have hq0 : (0 : Int) ≤ (k : Int) / 8 := by omega
      have hq1 : (k : Int) / 8 < 8 := by omega
      have td : (k : Int).tdiv 8 = (k : Int) / 8 := Int.tdiv_eq_ediv_of_nonneg (by omega)
      have tm : (k : Int).tmod 8 = (k : Int) % 8 := Int.tmod_eq_emod_of_nonneg (by omega)
      have hm8 : ((k : Int) % 8 * 8).toNat = 8 * (k % 8) := by omega
      have HSET := hid hset
      have HOR := hid hor
      clear hset hor
      generalize hWe : jnW B (k / 8) (k % 8) = X at *
      generalize hSe : B.getD k 0 = S at *
      go_wp2_with fail
      go_region
      rw [HOR.out]
      go_wp2_with fail
      refine ⟨⟨k + 1, by omega, by go_num, ?_, ?_, (hb.setCell (by simp; omega) _).drew⟩, by simp [intOf]; omega⟩
      · show (wr.setCell ⟨w.heap.size + 1 + 1, k / 8, none⟩ _).heap[w.heap.size + 1 + 1]? = _
        rw [heap_setCell_same wr _ _ _ _ _ hr, HSET.out]
      · show (wr.setCell ⟨w.heap.size + 1 + 1, k / 8, none⟩ _).heap[w.heap.size + 1]? = _
        rw [heap_setCell_other wr _ _ _ (by simp)]
        exact hz
    · obtain rfl : k = 64 := by omega
      rw [jnTo_all] at hr
      have hl2 : (jnF B).length = 8 := by simp [jnF]
      go_wp2_with (first
        | (refine wpList_load_row rfl 24 _ rfl (w.heap.size + 1 + 1) rfl 24 (ca (jnF B)) (0, 0) _ hr Try.underlying24 rfl (i24 hl2) ?_)
        | (refine wpList_store_row rfl 24 _ _ rfl (w.heap.size + 1) (ca (jnF B)) rfl rfl 24 (ca (jnTo B 0)) hz (i24 hl2) (by rw [ca_size, ca_size, jnTo_len, hl2]) (ca_one _) ?_))
      refine bodyPost_ret (results_cell_row rfl _ _ (w.heap.size + 1) 24 (ca (jnF B)) (0, 0) _ rfl (setRow_heap wr _ _ _ _ _ hz) Try.underlying24 rfl (i24 hl2)) rfl ⟨rfl, ?_⟩
      exact Below.setRow hb (by omega) _
end Go.Proofs.Ytgibkebdkhildaa
