/- The contract of the closure 'add' of pressure.Spans. Conditions: its two variables are boxes, its list is the call's own. -/
import Derived.Test.YtfjfmhkifaiakaaM3
import Derived.WalkSmall
import Derived.Laws.OwnMore
namespace Go.Proofs.Ytfjfmhkifaiakaa
open Go.RowKit Go.Shelf
set_option linter.unusedVariables false
set_option linter.unusedSimpArgs false

/-- the cells of a list of spans -/
def spC (S : List (Int × Int)) : List Value := S.flatMap fun s => [.int .i64 s.1, .int .i64 s.2]
theorem spC_len (S : List (Int × Int)) : (spC S).length = S.length * 2 := by
  induction S with
  | nil => rfl
  | cons s S ih => simp [spC] at ih ⊢; omega
theorem spC_append (S T : List (Int × Int)) : spC (S ++ T) = spC S ++ spC T := by simp [spC]
def spStep (S : List (Int × Int)) (before : Bool) (i : Int) (a : Bool) : List (Int × Int) :=
  if a then (if before then S.dropLast ++ [((S.getLastD (0, 0)).1, i)] else S ++ [(i, i)]) else S

/-- what the world keeps of a block that is neither a box of the two nor the list's row -/
structure AddPost (n₀ Bb Bl : Nat) (W W' : World) (S' : List (Int × Int)) (a : Bool) : Prop where
  ex : ∃ v, Boxed W' Bl 45 v ∧ W'.ownsRow n₀ 49 2 v S'.length (spC S')
  bb : Boxed W' Bb 4 (.bool a)
  ko : KeepsOthers W W'
  bl : Below n₀ W W'
  oth : ∀ k cs t, W.heap[k]? = some (.cells cs t (0, 0)) → t ≠ 49 → k ≠ Bb → k ≠ Bl → W'.heap[k]? = some (.cells cs t (0, 0))

theorem add_f (n₀ Bb Bl : Nat) (hn : n₀ ≤ Bb) (hbl : Bb ≠ Bl) (S : List (Int × Int)) (b : Bool) (i : Int) (W : World) (hex : ∃ v, Boxed W Bl 45 v ∧ W.ownsRow n₀ 49 2 v S.length (spC S)) (hb : Boxed W Bb 4 (.bool b)) :
    Calls Try.prog 42 #[.int .i64 i, .bool false, .pointer (some ⟨Bb, 0, none⟩), .pointer (some ⟨Bl, 0, none⟩)] W fun e W' => e = .returned (.tuple #[]) ∧ AddPost n₀ Bb Bl W W' (spStep S b i false) false := by
  have hc := hb.cell
  have hf := hb.frozen
  have HP : AddPost n₀ Bb Bl W (W.setCell ⟨Bb, 0, none⟩ (.bool false)) (spStep S b i false) false := by
    obtain ⟨v, hv, hr⟩ := hex
    have hg := grownBy_setCell' W Bb (.bool false)
    refine ⟨⟨v, hv.kept hg (by simp; omega), hr.kept hg ?_⟩, hb.set _, KeepsOthers.setCell _ _ _, (Below.refl _ _).setCell (p := ⟨Bb, 0, none⟩) hn _, fun k cs t hk ht h1 h2 => ?_⟩
    · exact .inr (fun e => hb.not_row (by decide) hr e.symm)
    · rw [Below.heap_setCell _ _ _ k h1]; exact hk
  have H := hid HP
  clear HP hex
  go_enter Try.func42, Try.ntmps42
  go_wp2_with fail
  refine bodyPost_end (results_none rfl _ _ _) rfl ?_
  exact ⟨rfl, H.out⟩

theorem own_oth {W w1 : World} {k e n₀ size n t : Nat} {cs : Array Value} {v : Value} {xs : List Value} {tmp : Obj} (hk : W.heap[k]? = some (.cells cs t (0, 0))) (hrow : W.ownsRow n₀ e size v n xs) (ht : t ≠ e)
    (hg : (W.alloc tmp).grownBy w1 v.ownBlock) : w1.heap[k]? = some (.cells cs t (0, 0)) := by
  rw [hg.block k (Array.getElem?_eq_some_iff.1 (al hk tmp)).1 ?_]
  · exact al hk tmp
  · rcases hrow.2 with ⟨rfl, _⟩ | ⟨g, cap, cur, rfl, _, hgb, _⟩
    · simp [Value.ownBlock]
    · intro e'
      obtain rfl : k = g := by simpa [Value.ownBlock] using e'
      rw [hk] at hgb
      simp at hgb
      exact ht hgb.2

set_option maxHeartbeats 1000000 in
theorem add_tf (n₀ Bb Bl : Nat) (hn : n₀ ≤ Bb) (hn' : n₀ ≤ Bl) (hbl : Bb ≠ Bl) (S : List (Int × Int)) (hS : S.length ≤ 1000000) (i : Int) (W : World) (hsz : n₀ ≤ W.heap.size) (hex : ∃ v, Boxed W Bl 45 v ∧ W.ownsRow n₀ 49 2 v S.length (spC S)) (hb : Boxed W Bb 4 (.bool false)) :
    Calls Try.prog 42 #[.int .i64 i, .bool true, .pointer (some ⟨Bb, 0, none⟩), .pointer (some ⟨Bl, 0, none⟩)] W fun e W' => e = .returned (.tuple #[]) ∧ AddPost n₀ Bb Bl W W' (spStep S false i true) true := by
  obtain ⟨i0, hi0, hz0, hz1, hz2⟩ := info_parts info49
  have HI := hid (And.intro hi0 (And.intro hz0 (And.intro hz1 hz2)))
  clear hi0 hz0 hz1 hz2
  obtain ⟨v, hv, hr⟩ := hex
  have hc := hb.cell
  have hc2 := hv.cell
  have HR := hid hr
  have HBX := hid hb
  have HV := hid hv
  clear hr hb hv
  go_enter Try.func42, Try.ntmps42
  go_wp2_with (at_builtin; refine wpList_append_own _ rfl _ _ 45 rfl n₀ 49 i0 (.agg #[.int .i64 0, .int .i64 0]) 2 16 Try.underlying45 HI.out.1 HI.out.2.1 HI.out.2.2.1 HI.out.2.2.2 rfl (by decide) _ _ _ rfl (HR.out.alloc _) ⟨W.heap.size, 0, none⟩ 1 1 [.int .i64 i, .int .i64 i] rfl rfl (cell_two_new _ _ _ _) (by simp [Value.oneCell']) (by unfold maxLen; omega) (by omega) (by simp; omega) ?_; intro v' w1 hown' hgrow _; obtain ⟨g', cap', rfl⟩ := ownsRow_succ hown'; obtain ⟨hv1, hv2, hr2, hk2, hb2⟩ := Boxed.appended HV.out (by decide) HR.out hsz hn' hown' hgrow; have hc1 := hv1.cell; have hf1 := hv1.frozen; have hB1 : Boxed w1 Bb 4 (.bool false) := own_oth HBX.out HR.out (by decide) hgrow; have hB2 : Boxed (w1.setCell ⟨Bl, 0, none⟩ (.slice (some ⟨g', 0, none⟩) (S.length + 1) cap')) Bb 4 (.bool false) := (Below.heap_setCell _ _ _ Bb hbl).trans hB1; have hcB := hB2.cell; have hfB := hB2.frozen)
  refine bodyPost_end (results_none rfl _ _ _) rfl ?_
  refine ⟨rfl, ?_⟩
  have hg := grownBy_setCell' (w1.setCell ⟨Bl, 0, none⟩ (.slice (some ⟨g', 0, none⟩) (S.length + 1) cap')) Bb (.bool true)
  refine ⟨⟨_, hv2.kept hg (by simp; omega), ?_⟩, hB2.set _, hk2.trans (KeepsOthers.setCell _ _ _), hb2.setCell (p := ⟨Bb, 0, none⟩) hn _, fun k cs t hk ht h1 h2 => ?_⟩
  · have h3 := hr2.kept hg (.inr (fun e => hB2.not_row (by decide) hr2 e.symm))
    have e1 : spStep S false i true = S ++ [(i, i)] := rfl
    rw [e1, spC_append]
    simpa [spC] using h3
  · rw [Below.heap_setCell _ _ _ k h1, Below.heap_setCell _ _ _ k h2]
    exact own_oth hk HR.out ht hgrow

theorem spC_set (T : List (Int × Int)) (p r i : Int) : (spC (T ++ [(p, r)])).set (T.length * 2 + 1) (.int .i64 i) = spC (T ++ [(p, i)]) := by
  rw [spC_append, spC_append, List.set_append_right _ _ (by rw [spC_len]; omega), spC_len]
  congr 1
  rw [show T.length * 2 + 1 - T.length * 2 = 1 by omega]
  rfl

set_option maxHeartbeats 1000000 in
theorem add_tt (n₀ Bb Bl : Nat) (hn : n₀ ≤ Bb) (hn' : n₀ ≤ Bl) (hbl : Bb ≠ Bl) (T : List (Int × Int)) (p r : Int) (hS : T.length ≤ 1000000) (i : Int) (W : World) (hex : ∃ v, Boxed W Bl 45 v ∧ W.ownsRow n₀ 49 2 v (T ++ [(p, r)]).length (spC (T ++ [(p, r)]))) (hb : Boxed W Bb 4 (.bool true)) :
    Calls Try.prog 42 #[.int .i64 i, .bool true, .pointer (some ⟨Bb, 0, none⟩), .pointer (some ⟨Bl, 0, none⟩)] W fun e W' => e = .returned (.tuple #[]) ∧ AddPost n₀ Bb Bl W W' (spStep (T ++ [(p, r)]) true i true) true := by
  obtain ⟨v, hv, hr⟩ := hex
  obtain ⟨n, hnl⟩ : ∃ n, n = (T ++ [(p, r)]).length := ⟨_, rfl⟩
  have hl1 : (T ++ [(p, r)]).length = T.length + 1 := by simp
  rw [hl1] at hr
  obtain ⟨g, cap, rfl⟩ := ownsRow_succ hr
  have hc := hb.cell
  have hf := hb.frozen
  have hc2 := hv.cell
  have hcell : W.cell? ⟨g, T.length * 2 + 1, none⟩ = some (.int .i64 r) := by
    rw [hr.cellAt _ (by omega), spC_append, List.getElem?_append_right (by rw [spC_len]; omega), spC_len, show T.length * 2 + 1 - T.length * 2 = 1 by omega]
    rfl
  have hfr := hr.frozenAt (T.length * 2 + 1)
  obtain ⟨hst, hgs⟩ := hr.stored (T.length * 2 + 1) (.int .i64 i)
  rw [spC_set] at hst
  have hne : some Bl ≠ some g := hv.not_row (by decide) hr
  have hne' : some Bb ≠ some g := hb.not_row (by decide) hr
  have HNB := hid hne
  have HNB' := hid hne'
  have hgn : n₀ ≤ g := (World.ownsRow.lt hr g rfl).1
  have HGC : Hid (∃ cs, W.heap[g]? = some (.cells cs 49 (0, 0))) := hid (by
    rcases hr.2 with ⟨h', _⟩ | ⟨g', cap', cur, h', _, hg', _⟩
    · simp at h'
    · simp only [Value.slice.injEq, Option.some.injEq, Addr.mk.injEq, and_true, true_and] at h'
      obtain ⟨rfl, rfl⟩ := h'
      exact ⟨cur, hg'⟩)
  have hcb1 : (W.setCell ⟨g, T.length * 2 + 1, none⟩ (.int .i64 i)).cell? ⟨Bb, 0, none⟩ = some (.bool true) := (hb.kept hgs hne').cell
  have hfb1 : (W.setCell ⟨g, T.length * 2 + 1, none⟩ (.int .i64 i)).frozen? ⟨Bb, 0, none⟩ = false := (hb.kept hgs hne').frozen
  have HR := hid hst
  have HG := hid hgs
  have HBX := hid hb
  have HV := hid hv
  have hlen : (0 : Int) ≤ (T.length : Int) := by omega
  clear hr hb hv hst hgs hne hne' hl1 hnl
  go_enter Try.func42, Try.ntmps42
  go_wp2_with fail
  refine bodyPost_end (results_none rfl _ _ _) rfl ?_
  refine ⟨rfl, ?_⟩
  have hv1 : Boxed (W.setCell ⟨g, T.length * 2 + 1, none⟩ (.int .i64 i)) Bl 45 _ := HV.out.kept HG.out HNB.out
  have hb1 : Boxed (W.setCell ⟨g, T.length * 2 + 1, none⟩ (.int .i64 i)) Bb 4 (.bool true) := HBX.out.kept HG.out HNB'.out
  have hg := grownBy_setCell' (W.setCell ⟨g, T.length * 2 + 1, none⟩ (.int .i64 i)) Bb (.bool true)
  refine ⟨⟨_, hv1.kept hg (by simp; omega), ?_⟩, hb1.set _, (KeepsOthers.setCell _ _ _).trans (KeepsOthers.setCell _ _ _), ((Below.refl _ _).setCell (p := ⟨g, _, none⟩) hgn _).setCell (p := ⟨Bb, 0, none⟩) hn _, fun k cs t hk ht h1 h2 => ?_⟩
  · have h3 := HR.out.kept hg (.inr (fun e => HNB'.out e.symm))
    have e1 : spStep (T ++ [(p, r)]) true i true = T ++ [(p, i)] := by
      have e2 : (T ++ [(p, r)]).getLastD (0, 0) = (p, r) := by rw [List.getLastD_eq_getLast?, List.getLast?_concat]; rfl
      unfold spStep
      rw [if_pos rfl, if_pos rfl, List.dropLast_concat, e2]
    rw [e1]
    simpa using h3
  · rw [Below.heap_setCell _ _ _ k h1, Below.heap_setCell _ _ _ k ?_]
    · exact hk
    · rintro rfl
      obtain ⟨cs', hg'⟩ := HGC.out
      rw [hk] at hg'
      simp at hg'
      exact ht hg'.2
end Go.Proofs.Ytfjfmhkifaiakaa
