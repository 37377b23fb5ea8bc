import Derived.Test.YtgibkebdkhildaaO
import Derived.Deep.DeepCutAuto
namespace Go.Proofs.Ytgibkebdkhildaa
open Go.RowKit
set_option linter.unusedVariables false
set_option linter.unusedSimpArgs false

theorem info3 : (Try.prog.info? 3).map (fun i => (i.zero, i.size, i.bytes)) = some (some (.int .i64 0), 1, 8) := by kernel_rfl
theorem OwnI.block {w : World} {base : Nat} {v : Value} {xs : List Int} (h : OwnI w base v xs) : ∀ k, v.ownBlock = some k → base ≤ k := by
  intro k hk
  rcases h.2 with ⟨rfl, _⟩ | ⟨g, cap, cur, rfl, hb, _⟩
  · cases hk
  · cases hk; exact hb
/-- a whole block behind an append to another -/
theorem grb {w w' : World} {k : Nat} {x : Obj} {row : Option Nat} (h : w.heap[k]? = some x) (hg : w.grownBy w' row) (hr : ∀ j, row = some j → k < j) : w'.heap[k]? = some x := by
  have hk : k < w.heap.size := by
    rcases Nat.lt_or_ge k w.heap.size with hlt | hge
    · exact hlt
    · rw [Array.getElem?_eq_none hge] at h; cases h
  rw [hg.block k hk (fun e => by have := hr k e.symm; omega)]
  exact h

def dfTo (C D : List Int) : Nat → List Int
  | 0 => []
  | k + 1 => if C.getD k 0 = D.getD k 0 then dfTo C D k else dfTo C D k ++ [(k : Int)]
theorem dfTo_len (C D : List Int) (k : Nat) : (dfTo C D k).length ≤ k := by
  induction k with
  | zero => simp [dfTo]
  | succ k ih => unfold dfTo; split <;> first | (simp; omega) | omega
def dfF (C D : List Int) : List Int := dfTo C D 8
theorem dfTo_comm (C D : List Int) (k : Nat) : dfTo C D k = dfTo D C k := by
  induction k with
  | zero => rfl
  | succ k ih =>
    unfold dfTo
    rw [ih]
    by_cases h : C.getD k 0 = D.getD k 0
    · rw [if_pos h, if_pos h.symm]
    · rw [if_neg h, if_neg (fun e => h e.symm)]
theorem dfF_comm (C D : List Int) : dfF C D = dfF D C := dfTo_comm C D 8
theorem dfTo_same (C : List Int) (k : Nat) : dfTo C C k = [] := by
  induction k with
  | zero => rfl
  | succ k ih => unfold dfTo; rw [if_pos rfl, ih]
theorem set_getD (C : List Int) (i j : Nat) (v : Int) (hi : i < C.length) : (C.set i v).getD j 0 = if i = j then v else C.getD j 0 := by
  simp only [List.getD_eq_getElem?_getD, List.getElem?_set]
  by_cases h : i = j
  · subst h; simp [hi]
  · simp [h]
theorem dfTo_set (C : List Int) (i : Nat) (v : Int) (hi : i < C.length) (hv : C.getD i 0 ≠ v) (k : Nat) : dfTo C (C.set i v) k = if i < k then [(i : Int)] else [] := by
  induction k with
  | zero => simp [dfTo]
  | succ k ih =>
    unfold dfTo
    rw [ih, set_getD C i k v hi]
    by_cases h : i = k
    · subst h; rw [if_pos rfl, if_neg hv]; simp
    · rw [if_neg h, if_pos rfl]
      by_cases h2 : i < k
      · rw [if_pos h2, if_pos (by omega)]
      · rw [if_neg h2, if_neg (by omega)]

set_option maxHeartbeats 2000000 in
theorem diff_any (C D : List Int) (hC : C.length = 8) (hD : D.length = 8) (w : World) :
    Calls Try.prog 17 #[.agg (ca C), .agg (ca D)] w fun e w' => (∃ A c, e = .returned (.slice A (dfF C D).length c) ∧ RdI w' A (dfF C D)) ∧ Below w.heap.size w w' := by
  obtain ⟨i0, hi, hz0, hz1, hz2⟩ := info_parts info3
  have HI := hid (And.intro hi (And.intro hz0 (And.intro hz1 hz2)))
  clear hi hz0 hz1 hz2
  have r0 := al (heap_alloc_new w (.cells (ca C) 24)) (.cells (ca D) 24)
  have r1 := heap_alloc2_new w (.cells (ca C) 24) (.cells (ca D) 24)
  have b0 := ((Below.refl w.heap.size w).alloc (Nat.le_refl _) (.cells (ca C) 24)).alloc (by simp) (.cells (ca D) 24)
  have R0 := hid r0
  have R1 := hid r1
  clear r0 r1
  go_enter Try.func17, Try.ntmps17
  go_wp2_with fail
  go_loopw [5, 7] (fun v i wr => ∃ k : Nat, k ≤ 8 ∧ i = .int .i64 k ∧ OwnI wr (w.heap.size + 2) v (dfTo C D k) ∧ wr.heap[w.heap.size]? = some (.cells (ca C) 24 (0, 0)) ∧ wr.heap[w.heap.size + 1]? = some (.cells (ca D) 24 (0, 0)) ∧ Below w.heap.size w wr) (fun _ i _ => 8 - (intOf i).toNat)
  case atStart => exact ⟨0, by omega, rfl, OwnI.nil _ _, R0.out, R1.out, b0⟩
  case round =>
    clear b0
    obtain ⟨k, hk, rfl, hO, h0, h1, hb⟩ := hrel
    have HO := hid hO
    clear hO
    by_cases hlt : k < 8
    · have c0 : wr.cell? ⟨w.heap.size, k, none⟩ = some (.int .u64 (C.getD k 0)) := by
        rw [cell_of_row _ _ _ _ _ _ h0, ca_get C _ (by omega)]
        simp
      have c1 : wr.cell? ⟨w.heap.size + 1, k, none⟩ = some (.int .u64 (D.getD k 0)) := by
        rw [cell_of_row _ _ _ _ _ _ h1, ca_get D _ (by omega)]
        simp
      have H0 := hid h0
      have H1 := hid h1
      have hlen := dfTo_len C D k
      have hsz : w.heap.size + 1 < wr.heap.size := World.block_lt_of_cell? wr _ c1
      clear h0 h1
      have HN := hid (show dfTo C D (k + 1) = if C.getD k 0 = D.getD k 0 then dfTo C D k else dfTo C D k ++ [(k : Int)] from rfl)
      generalize C.getD k 0 = x at *
      generalize D.getD k 0 = y at *
      have hk0 : (0 : Int) ≤ (k : Int) := by omega
      have hk1 : (k : Int) < 8 := by omega
      by_cases hxy : x = y
      · have e1 : (x != y) = false := by simp [hxy]
        have HX := hid hxy
        clear hxy
        go_wp2_with fail
        go_region
        go_wp2_with fail
        refine ⟨⟨k + 1, by omega, by go_num, ?_, H0.out, H1.out, hb.drew⟩, by simp [intOf]; omega⟩
        rw [HN.out, if_pos HX.out]
        exact HO.out
      · have e1 : (x != y) = true := by simp [hxy]
        have HX := hid hxy
        clear hxy
        go_wp2_with fail
        go_region
        go_wp2_with (at_builtin; refine wpList_append_own _ rfl _ _ 33 rfl (w.heap.size + 2) 3 i0 (.int .i64 0) 1 8 Try.underlying33 HI.out.1 HI.out.2.1 HI.out.2.2.1 HI.out.2.2.2 rfl (by decide) _ _ _ rfl (World.ownsRow.alloc (w := wr.drew) HO.out _) ⟨wr.heap.size, 0, none⟩ 1 1 [.int .i64 (k : Int)] rfl rfl (cell_one_new _ _ _) (by simp [Value.oneCell']) ?c3 ?c4 ?c5 ?_)
        case c3 => unfold maxLen; omega
        case c4 => omega
        case c5 => simp; omega
        intro v' w3 hown hgrow _
        have hkb : ∀ k, u5.ownBlock = some k → w.heap.size + 2 ≤ k := HO.out.block
        have h0' := grb (w := (wr.alloc _).drew) (al H0.out _) hgrow (fun j e => by have := hkb j e; omega)
        have h1' := grb (w := (wr.alloc _).drew) (al H1.out _) hgrow (fun j e => by have := hkb j e; omega)
        have hb3 := (hb.drew.alloc hb.size _).grown hgrow (by have := hb.size; simp; omega) (fun k hk => by have := hkb k hk; omega)
        have H0' := hid h0'
        have H1' := hid h1'
        clear h0' h1'
        go_wp2_with fail
        refine ⟨⟨k + 1, by omega, by go_num, ?_, H0'.out, H1'.out, hb3⟩, by simp [intOf]; omega⟩
        rw [HN.out, if_neg HX.out]
        exact OwnI.of hown
    · obtain rfl : k = 8 := by omega
      obtain ⟨A, c, hv, hr⟩ := HO.out.reads
      subst hv
      clear h0 h1
      go_wp2_with fail
      go_ret
      exact ⟨⟨A, c, rfl, hr⟩, hb⟩

set_option maxHeartbeats 2000000 in
theorem rdiff_any (C D : List Int) (hC : C.length = 8) (hD : D.length = 8) (w : World) :
    Calls Try.prog 28 #[.agg (ca C), .agg (ca D)] w fun e w' => (∃ A c, e = .returned (.slice A (dfF C D).length c) ∧ RdI w' A (dfF C D)) ∧ Below w.heap.size w w' := by
  obtain ⟨i0, hi, hz0, hz1, hz2⟩ := info_parts info3
  have HI := hid (And.intro hi (And.intro hz0 (And.intro hz1 hz2)))
  clear hi hz0 hz1 hz2
  have r0 := al (heap_alloc_new w (.cells (ca C) 24)) (.cells (ca D) 24)
  have r1 := heap_alloc2_new w (.cells (ca C) 24) (.cells (ca D) 24)
  have b0 := ((Below.refl w.heap.size w).alloc (Nat.le_refl _) (.cells (ca C) 24)).alloc (by simp) (.cells (ca D) 24)
  have R0 := hid r0
  have R1 := hid r1
  clear r0 r1
  go_enter Try.func28, Try.ntmps28
  go_wp2_with fail
  go_loopw [5, 6] (fun v i wr => ∃ k : Nat, k ≤ 8 ∧ i = .int .i64 k ∧ OwnI wr (w.heap.size + 2) v (dfTo C D k) ∧ wr.heap[w.heap.size]? = some (.cells (ca C) 24 (0, 0)) ∧ wr.heap[w.heap.size + 1]? = some (.cells (ca D) 24 (0, 0)) ∧ Below w.heap.size w wr) (fun _ i _ => 8 - (intOf i).toNat)
  case atStart => exact ⟨0, by omega, rfl, OwnI.nil _ _, R0.out, R1.out, b0⟩
  case round =>
    clear b0
    obtain ⟨k, hk, rfl, hO, h0, h1, hb⟩ := hrel
    have HO := hid hO
    clear hO
    by_cases hlt : k < 8
    · have c0 : wr.cell? ⟨w.heap.size, k, none⟩ = some (.int .u64 (C.getD k 0)) := by
        rw [cell_of_row _ _ _ _ _ _ h0, ca_get C _ (by omega)]
        simp
      have c1 : wr.cell? ⟨w.heap.size + 1, k, none⟩ = some (.int .u64 (D.getD k 0)) := by
        rw [cell_of_row _ _ _ _ _ _ h1, ca_get D _ (by omega)]
        simp
      have H0 := hid h0
      have H1 := hid h1
      have hlen := dfTo_len C D k
      have hsz : w.heap.size + 1 < wr.heap.size := World.block_lt_of_cell? wr _ c1
      clear h0 h1
      have HN := hid (show dfTo C D (k + 1) = if C.getD k 0 = D.getD k 0 then dfTo C D k else dfTo C D k ++ [(k : Int)] from rfl)
      generalize C.getD k 0 = x at *
      generalize D.getD k 0 = y at *
      have hk0 : (0 : Int) ≤ (k : Int) := by omega
      have hk1 : (k : Int) < 8 := by omega
      by_cases hxy : x = y
      · have e1 : (x != y) = false := by simp [hxy]
        have HX := hid hxy
        clear hxy
        go_wp2_with fail
        go_region
        go_wp2_with fail
        refine ⟨⟨k + 1, by omega, by go_num, ?_, H0.out, H1.out, hb.drew⟩, by simp [intOf]; omega⟩
        rw [HN.out, if_pos HX.out]
        exact HO.out
      · have e1 : (x != y) = true := by simp [hxy]
        have HX := hid hxy
        clear hxy
        go_wp2_with fail
        go_region
        go_wp2_with (at_builtin; refine wpList_append_own _ rfl _ _ 33 rfl (w.heap.size + 2) 3 i0 (.int .i64 0) 1 8 Try.underlying33 HI.out.1 HI.out.2.1 HI.out.2.2.1 HI.out.2.2.2 rfl (by decide) _ _ _ rfl (World.ownsRow.alloc (w := wr.drew) HO.out _) ⟨wr.heap.size, 0, none⟩ 1 1 [.int .i64 (k : Int)] rfl rfl (cell_one_new _ _ _) (by simp [Value.oneCell']) ?c3 ?c4 ?c5 ?_)
        case c3 => unfold maxLen; omega
        case c4 => omega
        case c5 => simp; omega
        intro v' w3 hown hgrow _
        have hkb : ∀ k, u5.ownBlock = some k → w.heap.size + 2 ≤ k := HO.out.block
        have h0' := grb (w := (wr.alloc _).drew) (al H0.out _) hgrow (fun j e => by have := hkb j e; omega)
        have h1' := grb (w := (wr.alloc _).drew) (al H1.out _) hgrow (fun j e => by have := hkb j e; omega)
        have hb3 := (hb.drew.alloc hb.size _).grown hgrow (by have := hb.size; simp; omega) (fun k hk => by have := hkb k hk; omega)
        have H0' := hid h0'
        have H1' := hid h1'
        clear h0' h1'
        go_wp2_with fail
        refine ⟨⟨k + 1, by omega, by go_num, ?_, H0'.out, H1'.out, hb3⟩, by simp [intOf]; omega⟩
        rw [HN.out, if_neg HX.out]
        exact OwnI.of hown
    · obtain rfl : k = 8 := by omega
      obtain ⟨A, c, hv, hr⟩ := HO.out.reads
      subst hv
      clear h0 h1
      go_wp2_with fail
      go_ret
      exact ⟨⟨A, c, rfl, hr⟩, hb⟩
end Go.Proofs.Ytgibkebdkhildaa
