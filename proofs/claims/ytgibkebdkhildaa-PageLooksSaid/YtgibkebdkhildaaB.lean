import Derived.Test.YtgibkebdkhildaaA
import Derived.Laws.Rows
import Derived.OwnWalk
import Derived.Laws.Tables
import Derived.Deep.WholeRow
namespace Go.Proofs.Ytgibkebdkhildaa
open Go.RowKit
set_option linter.unusedVariables false
set_option linter.unusedSimpArgs false

theorem Below.setRow {B : Nat} {a w : World} (h : Below B a w) {g : Nat} (hg : B ≤ g) (cs : Array Value) : Below B a (w.setRow g cs) :=
  ⟨h.os, h.tape, h.output, by simpa using h.size, fun k hk => by
    rw [← h.block k hk]
    simp only [World.setRow, Array.getElem?_modify]
    rw [if_neg (by omega)]⟩
theorem al {w : World} {k : Nat} {x : Obj} (h : w.heap[k]? = some x) (o : Obj) : (w.alloc o).heap[k]? = some x := by
  have hk : k < w.heap.size := by
    rcases Nat.lt_or_ge k w.heap.size with hlt | hge
    · exact hlt
    · rw [Array.getElem?_eq_none hge] at h; cases h
  rw [Below.heap_alloc w o k hk, h]
theorem i24 {C : List Int} (hC : C.length = 8) : (Try.prog.info? 24).map (·.size) = some (ca C).size := by
  rw [ca_size, hC]
  kernel_rfl
theorem i58 {C : List Int} (hC : C.length = 64) : (Try.prog.info? 58).map (·.size) = some (ca C).size := by
  rw [ca_size, hC]
  kernel_rfl

theorem ca_one (C : List Int) : (ca C).all (·.oneCell') = true := by simp [ca, Value.oneCell']
theorem pw (q : Nat) : (256 : Int) ^ q = 2 ^ (8 * q) := by rw [Int.pow_mul]; rfl
theorem info22 : (Try.prog.info? 22).map (fun i => (i.zero, i.size, i.bytes)) = some (some (.int .u64 0), 1, 8) := by kernel_rfl
theorem run_index24 (C : List Int) (hC : C.length = 8) (k : Nat) (hk : k < 8) (w : World) :
    (Instr.index 24 (.agg (ca C)) (.int .i64 k)).run Try.prog w = .ok (.int .u64 (C.getD k 0)) w := by
  obtain ⟨i0, hi, hz0, hz1, hz2⟩ := info_parts info22
  have hg : (ca C)[k]? = some (.int .u64 (C.getD k 0)) := by rw [ca_get C k (by omega)]; simp
  have h1 : ¬ 8 ≤ k := by omega
  simp [Instr.index, run_underlying Try.underlying24, asIntOf, go_sem, part, sizeOf, typeInfo, hi, hz1, hg, h1]
theorem run_index58 (C : List Int) (hC : C.length = 64) (k : Nat) (hk : k < 64) (w : World) :
    (Instr.index 58 (.agg (ca C)) (.int .i64 k)).run Try.prog w = .ok (.int .u64 (C.getD k 0)) w := by
  obtain ⟨i0, hi, hz0, hz1, hz2⟩ := info_parts info22
  have hg : (ca C)[k]? = some (.int .u64 (C.getD k 0)) := by rw [ca_get C k (by omega)]; simp
  have h1 : ¬ 64 ≤ k := by omega
  simp [Instr.index, run_underlying Try.underlying58, asIntOf, go_sem, part, sizeOf, typeInfo, hi, hz1, hg, h1]

def spB (C : List Int) (j : Nat) : Int := C.getD (j / 8) 0 / 256 ^ (j % 8) % 256
def spF (C : List Int) : List Int := (List.range 64).map (spB C)
def spTo (C : List Int) (n : Nat) : List Int := (List.range 64).map fun j => if j < n then spB C j else 0
theorem spTo_len (C : List Int) (n : Nat) : (spTo C n).length = 64 := by simp [spTo]
theorem spTo_set (C : List Int) (n : Nat) (h : n < 64) : (ca (spTo C n)).setIfInBounds n (.int .u64 (spB C n)) = ca (spTo C (n + 1)) := by
  apply Array.ext_getElem?
  intro i
  rw [Array.getElem?_setIfInBounds]
  by_cases hi : i < 64
  · by_cases hn : n = i
    · subst hn
      simp [ca, spTo, h]
    · have h1 : i < n + 1 ↔ i < n := by omega
      simp [ca, spTo, hn, hi, h1]
  · have hn : n ≠ i := by omega
    simp [ca, spTo, hn, hi]
theorem spTo_zero (C : List Int) : ca (spTo C 0) = #[.int .u64 0, .int .u64 0, .int .u64 0, .int .u64 0, .int .u64 0, .int .u64 0, .int .u64 0, .int .u64 0, .int .u64 0, .int .u64 0, .int .u64 0, .int .u64 0, .int .u64 0, .int .u64 0, .int .u64 0, .int .u64 0, .int .u64 0, .int .u64 0, .int .u64 0, .int .u64 0, .int .u64 0, .int .u64 0, .int .u64 0, .int .u64 0, .int .u64 0, .int .u64 0, .int .u64 0, .int .u64 0, .int .u64 0, .int .u64 0, .int .u64 0, .int .u64 0, .int .u64 0, .int .u64 0, .int .u64 0, .int .u64 0, .int .u64 0, .int .u64 0, .int .u64 0, .int .u64 0, .int .u64 0, .int .u64 0, .int .u64 0, .int .u64 0, .int .u64 0, .int .u64 0, .int .u64 0, .int .u64 0, .int .u64 0, .int .u64 0, .int .u64 0, .int .u64 0, .int .u64 0, .int .u64 0, .int .u64 0, .int .u64 0, .int .u64 0, .int .u64 0, .int .u64 0, .int .u64 0, .int .u64 0, .int .u64 0, .int .u64 0, .int .u64 0] := by simp [ca, spTo, List.range_succ]
theorem spTo_all (C : List Int) : spTo C 64 = spF C := by
  unfold spTo spF
  apply List.map_congr_left
  intro j hj
  rw [if_pos (List.mem_range.1 hj)]

set_option maxHeartbeats 2000000 in
theorem spread_any (C : List Int) (hC : C.length = 8) (hw : ∀ x ∈ C, 0 ≤ x ∧ x ≤ 18446744073709551615) (w : World) :
    Calls Try.prog 37 #[.agg (ca C)] w fun e w' => e = .returned (.agg (ca (spF C))) ∧ Below w.heap.size w w' := by
  have h0 := heap_alloc_new w (.cells (ca C) 24)
  have hsz := ca_size C
  go_enter Try.func37, Try.ntmps37
  go_wp2_with (refine wpList_load_row rfl 24 _ rfl w.heap.size rfl 24 (ca C) (0, 0) _ (al (al h0 _) _) Try.underlying24 rfl (i24 hC) ?_)
  go_loopw [8] (fun i wr => ∃ k : Nat, k ≤ 8 ∧ i = .int .i64 k ∧ wr.heap[w.heap.size + 1 + 1]? = some (.cells (ca (spTo C (8 * k))) 58 (0, 0)) ∧ wr.heap[w.heap.size + 1]? = some (.cells (ca (spTo C 0)) 58 (0, 0)) ∧ Below w.heap.size w wr) (fun i _ => 8 - (intOf i).toNat)
  case atStart =>
    refine ⟨0, by omega, rfl, ?_, ?_, ?_⟩
    · rw [show 8 * 0 = 0 from rfl, spTo_zero]
      have := heap_alloc_new ((w.alloc (.cells (ca C) 24)).alloc (.cells #[.int .u64 0, .int .u64 0, .int .u64 0, .int .u64 0, .int .u64 0, .int .u64 0, .int .u64 0, .int .u64 0, .int .u64 0, .int .u64 0, .int .u64 0, .int .u64 0, .int .u64 0, .int .u64 0, .int .u64 0, .int .u64 0, .int .u64 0, .int .u64 0, .int .u64 0, .int .u64 0, .int .u64 0, .int .u64 0, .int .u64 0, .int .u64 0, .int .u64 0, .int .u64 0, .int .u64 0, .int .u64 0, .int .u64 0, .int .u64 0, .int .u64 0, .int .u64 0, .int .u64 0, .int .u64 0, .int .u64 0, .int .u64 0, .int .u64 0, .int .u64 0, .int .u64 0, .int .u64 0, .int .u64 0, .int .u64 0, .int .u64 0, .int .u64 0, .int .u64 0, .int .u64 0, .int .u64 0, .int .u64 0, .int .u64 0, .int .u64 0, .int .u64 0, .int .u64 0, .int .u64 0, .int .u64 0, .int .u64 0, .int .u64 0, .int .u64 0, .int .u64 0, .int .u64 0, .int .u64 0, .int .u64 0, .int .u64 0, .int .u64 0, .int .u64 0] 58)) (.cells #[.int .u64 0, .int .u64 0, .int .u64 0, .int .u64 0, .int .u64 0, .int .u64 0, .int .u64 0, .int .u64 0, .int .u64 0, .int .u64 0, .int .u64 0, .int .u64 0, .int .u64 0, .int .u64 0, .int .u64 0, .int .u64 0, .int .u64 0, .int .u64 0, .int .u64 0, .int .u64 0, .int .u64 0, .int .u64 0, .int .u64 0, .int .u64 0, .int .u64 0, .int .u64 0, .int .u64 0, .int .u64 0, .int .u64 0, .int .u64 0, .int .u64 0, .int .u64 0, .int .u64 0, .int .u64 0, .int .u64 0, .int .u64 0, .int .u64 0, .int .u64 0, .int .u64 0, .int .u64 0, .int .u64 0, .int .u64 0, .int .u64 0, .int .u64 0, .int .u64 0, .int .u64 0, .int .u64 0, .int .u64 0, .int .u64 0, .int .u64 0, .int .u64 0, .int .u64 0, .int .u64 0, .int .u64 0, .int .u64 0, .int .u64 0, .int .u64 0, .int .u64 0, .int .u64 0, .int .u64 0, .int .u64 0, .int .u64 0, .int .u64 0, .int .u64 0] 58)
      simpa using this
    · rw [spTo_zero]
      have := al (heap_alloc_new (w.alloc (.cells (ca C) 24)) (.cells #[.int .u64 0, .int .u64 0, .int .u64 0, .int .u64 0, .int .u64 0, .int .u64 0, .int .u64 0, .int .u64 0, .int .u64 0, .int .u64 0, .int .u64 0, .int .u64 0, .int .u64 0, .int .u64 0, .int .u64 0, .int .u64 0, .int .u64 0, .int .u64 0, .int .u64 0, .int .u64 0, .int .u64 0, .int .u64 0, .int .u64 0, .int .u64 0, .int .u64 0, .int .u64 0, .int .u64 0, .int .u64 0, .int .u64 0, .int .u64 0, .int .u64 0, .int .u64 0, .int .u64 0, .int .u64 0, .int .u64 0, .int .u64 0, .int .u64 0, .int .u64 0, .int .u64 0, .int .u64 0, .int .u64 0, .int .u64 0, .int .u64 0, .int .u64 0, .int .u64 0, .int .u64 0, .int .u64 0, .int .u64 0, .int .u64 0, .int .u64 0, .int .u64 0, .int .u64 0, .int .u64 0, .int .u64 0, .int .u64 0, .int .u64 0, .int .u64 0, .int .u64 0, .int .u64 0, .int .u64 0, .int .u64 0, .int .u64 0, .int .u64 0, .int .u64 0] 58)) (.cells #[.int .u64 0, .int .u64 0, .int .u64 0, .int .u64 0, .int .u64 0, .int .u64 0, .int .u64 0, .int .u64 0, .int .u64 0, .int .u64 0, .int .u64 0, .int .u64 0, .int .u64 0, .int .u64 0, .int .u64 0, .int .u64 0, .int .u64 0, .int .u64 0, .int .u64 0, .int .u64 0, .int .u64 0, .int .u64 0, .int .u64 0, .int .u64 0, .int .u64 0, .int .u64 0, .int .u64 0, .int .u64 0, .int .u64 0, .int .u64 0, .int .u64 0, .int .u64 0, .int .u64 0, .int .u64 0, .int .u64 0, .int .u64 0, .int .u64 0, .int .u64 0, .int .u64 0, .int .u64 0, .int .u64 0, .int .u64 0, .int .u64 0, .int .u64 0, .int .u64 0, .int .u64 0, .int .u64 0, .int .u64 0, .int .u64 0, .int .u64 0, .int .u64 0, .int .u64 0, .int .u64 0, .int .u64 0, .int .u64 0, .int .u64 0, .int .u64 0, .int .u64 0, .int .u64 0, .int .u64 0, .int .u64 0, .int .u64 0, .int .u64 0, .int .u64 0] 58)
      simpa using this
    · repeat (first | exact Below.refl _ _ | refine Below.alloc ?_ (by simp <;> omega) _)
  case round =>
    obtain ⟨k, hk, rfl, hr, hz, hb⟩ := hrel
    by_cases hlt : k < 8
    · have hlt' : k < C.length := by omega
      have hget := run_index24 C hC k hlt
      obtain ⟨x0, x1⟩ := hw (C.getD k 0) (by rw [List.getD_eq_getElem?_getD, List.getElem?_eq_getElem hlt']; exact List.getElem_mem hlt')
      generalize hx : C.getD k 0 = x at *
      go_wp2_with fail
      go_loopw [12] (fun i wi => ∃ q : Nat, q ≤ 8 ∧ i = .int .i64 q ∧ wi.heap[w.heap.size + 1 + 1]? = some (.cells (ca (spTo C (8 * k + q))) 58 (0, 0)) ∧ wi.heap[w.heap.size + 1]? = some (.cells (ca (spTo C 0)) 58 (0, 0)) ∧ Below w.heap.size w wi) (fun i _ => 8 - (intOf i).toNat)
      case atStart => exact ⟨0, by omega, rfl, hr, hz, hb⟩
      case round =>
        clear hr hz hb
        obtain ⟨q, hq, rfl, hr, hz, hb⟩ := hrel
        by_cases hlq : q < 8
        · have hidx : (8 * (k : Int) + (q : Int)).toNat = 8 * k + q := by omega
          have hn : 8 * k + q < 64 := by omega
          have hcell : wr.cell? ⟨w.heap.size + 1 + 1, 8 * k + q, none⟩ = some (.int .u64 0) := by
            rw [cell_of_row _ _ _ _ _ _ hr]
            simp [ca, spTo, hn]
          have hfr := frozen_of_row wr (w.heap.size + 1 + 1) (8 * k + q) _ _ hr
          have hval : x / 2 ^ (8 * q) % 256 = spB C (8 * k + q) := by
            unfold spB
            rw [show (8 * k + q) / 8 = k by omega, show (8 * k + q) % 8 = q by omega, hx, pw]
          go_wp2_with fail
          try rw [hval]
          refine ⟨⟨q + 1, by omega, by go_num, ?_, ?_, hb.setCell (by simp; omega) _⟩, by simp [intOf]; omega⟩
          · rw [heap_setCell_same wr _ _ _ _ _ hr, spTo_set C _ hn]
            rfl
          · rw [heap_setCell_other wr _ _ _ (by simp)]
            exact hz
        · obtain rfl : q = 8 := by omega
          go_wp2_with fail
          exact ⟨⟨k + 1, by omega, by go_num, by rw [show 8 * (k + 1) = 8 * k + 8 by omega]; exact hr, hz, hb⟩, by simp [intOf]; omega⟩
    · obtain rfl : k = 8 := by omega
      rw [show 8 * 8 = 64 from rfl, spTo_all] at hr
      have hl : (spF C).length = 64 := by simp [spF]
      go_wp2_with (first
        | (refine wpList_load_row rfl 58 _ rfl (w.heap.size + 1 + 1) rfl 58 (ca (spF C)) (0, 0) _ hr Try.underlying58 rfl (i58 hl) ?_)
        | (refine wpList_store_row rfl 58 _ _ rfl (w.heap.size + 1) (ca (spF C)) rfl rfl 58 (ca (spTo C 0)) hz (i58 hl) (by rw [ca_size, ca_size, spTo_len, hl]) (ca_one _) ?_))
      refine bodyPost_ret (results_cell_row rfl _ _ (w.heap.size + 1) 58 (ca (spF C)) (0, 0) _ rfl (setRow_heap wr _ _ _ _ _ hz) Try.underlying58 rfl (i58 hl)) rfl ⟨rfl, ?_⟩
      exact Below.setRow hb (by omega) _
end Go.Proofs.Ytgibkebdkhildaa
