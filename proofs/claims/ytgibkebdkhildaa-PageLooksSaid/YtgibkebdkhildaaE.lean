import Derived.Test.YtgibkebdkhildaaD
namespace Go.Proofs.Ytgibkebdkhildaa
open Go.RowKit
set_option linter.unusedVariables false
set_option linter.unusedSimpArgs false

theorem h2 (w : World) (X Z : Obj) : ((w.alloc X).alloc Z).heap[w.heap.size + 1]? = some Z := by
  have := heap_alloc_new (w.alloc X) Z
  simpa using this
theorem results_cell_tmp {fn : Func} {p q : Tmp} {ty : TypeId} (h : fn.results = #[.cell p ty, .tmp q]) (tmps : Array Value) (w : World) (g : Nat) (t : TypeId) (cs : Array Value) (fr : Nat × Nat) (n : Nat) (el : TypeId)
    (hp : tmps.getD p undef = .pointer (some ⟨g, 0, none⟩)) (hg : w.heap[g]? = some (.cells cs t fr))
    (hu : Try.prog.underlying ty = some (.array n el)) (hi : (Try.prog.info? ty).map (·.size) = some cs.size) :
    (results fn tmps).run Try.prog w = .ok (.tuple #[.agg cs, tmps.getD q undef]) w := by
  have hp' : tmps[p]?.getD undef = .pointer (some ⟨g, 0, none⟩) := by simpa using hp
  simp [results, h, hp', asAddr, run_loadVar_row w g t ty cs fr _ hg hu rfl hi]
def inW (i : Int) : Prop := 0 ≤ i ∧ i < 8
instance (i : Int) : Decidable (inW i) := by unfold inW; exact inferInstance
def gtV (C : List Int) (i : Int) : Int := if inW i then C.getD i.toNat 0 else 0
def gtE (i : Int) : Int := if inW i then 0 else 2
def ptC (C : List Int) (i v : Int) : List Int := if inW i then C.set i.toNat v else [0, 0, 0, 0, 0, 0, 0, 0]
theorem ca_set (C : List Int) (i : Nat) (v : Int) : (ca C).setIfInBounds i (.int .u64 v) = ca (C.set i v) := by
  simp [ca, List.map_set]

set_option maxHeartbeats 1000000 in
theorem get_any (C : List Int) (hC : C.length = 8) (i : Int) (w : World) :
    Calls Try.prog 11 #[.agg (ca C), .int .i64 i] w fun e w' => e = .returned (.tuple #[.int .u64 (gtV C i), .int .i64 (gtE i)]) ∧ Below w.heap.size w w' := by
  by_cases h : inW i
  · rw [show gtV C i = C.getD i.toNat 0 from if_pos h, show gtE i = 0 from if_pos h]
    obtain ⟨h0, h1⟩ := h
    have hcell : (w.alloc (.cells (ca C) 24)).cell? ⟨w.heap.size, i.toNat, none⟩ = some (.int .u64 (C.getD i.toNat 0)) := by
      rw [cell_of_row _ _ _ (ca C) 24 (0,0) (heap_alloc_new _ _), ca_get C _ (by omega)]
      simp
    generalize C.getD i.toNat 0 = x at *
    go_enter Try.func11, Try.ntmps11
    go_wp2
    go_ret2
    exact ⟨rfl, (Below.refl _ _).alloc (Nat.le_refl _) _⟩
  · rw [show gtV C i = 0 from if_neg h, show gtE i = 2 from if_neg h]
    unfold inW at h
    have hi : i < 0 ∨ 8 ≤ i := by omega
    clear h
    rcases hi with hn | hn
    all_goals
      go_enter Try.func11, Try.ntmps11
      go_wp2
      go_ret2
      exact ⟨rfl, (Below.refl _ _).alloc (Nat.le_refl _) _⟩

set_option maxHeartbeats 1000000 in
theorem rget_any (C : List Int) (hC : C.length = 8) (i : Int) (w : World) :
    Calls Try.prog 12 #[.agg (ca C), .int .i64 i] w fun e w' => e = .returned (.tuple #[.int .u64 (gtV C i), .int .i64 (gtE i)]) ∧ Below w.heap.size w w' := by
  by_cases h : inW i
  · rw [show gtV C i = C.getD i.toNat 0 from if_pos h, show gtE i = 0 from if_pos h]
    obtain ⟨h0, h1⟩ := h
    have hcell : (w.alloc (.cells (ca C) 24)).cell? ⟨w.heap.size, i.toNat, none⟩ = some (.int .u64 (C.getD i.toNat 0)) := by
      rw [cell_of_row _ _ _ (ca C) 24 (0,0) (heap_alloc_new _ _), ca_get C _ (by omega)]
      simp
    generalize C.getD i.toNat 0 = x at *
    go_enter Try.func12, Try.ntmps12
    go_wp2
    go_ret2
    exact ⟨rfl, (Below.refl _ _).alloc (Nat.le_refl _) _⟩
  · rw [show gtV C i = 0 from if_neg h, show gtE i = 2 from if_neg h]
    unfold inW at h
    have hi : i < 0 ∨ 8 ≤ i := by omega
    clear h
    rcases hi with hn | hn
    all_goals
      go_enter Try.func12, Try.ntmps12
      go_wp2
      go_ret2
      exact ⟨rfl, (Below.refl _ _).alloc (Nat.le_refl _) _⟩

set_option maxHeartbeats 1000000 in
theorem put_any (C : List Int) (hC : C.length = 8) (i v : Int) (w : World) :
    Calls Try.prog 13 #[.agg (ca C), .int .i64 i, .int .u64 v] w fun e w' => e = .returned (.tuple #[.agg (ca (ptC C i v)), .int .i64 (gtE i)]) ∧ Below w.heap.size w w' := by
  by_cases h : inW i
  · rw [show ptC C i v = C.set i.toNat v from if_pos h, show gtE i = 0 from if_pos h]
    obtain ⟨h0, h1⟩ := h
    have hcell : (w.alloc (.cells (ca C) 24)).cell? ⟨w.heap.size, i.toNat, none⟩ = some (.int .u64 (C.getD i.toNat 0)) := by
      rw [cell_of_row _ _ _ (ca C) 24 (0,0) (heap_alloc_new _ _), ca_get C _ (by omega)]
      simp
    have hfr := frozen_of_row (w.alloc (.cells (ca C) 24)) w.heap.size i.toNat _ _ (heap_alloc_new _ _)
    go_enter Try.func13, Try.ntmps13
    have hC1 : (ca C)[i.toNat]? = some (.int .u64 (C.getD i.toNat 0)) := by
      rw [ca_get C _ (by omega)]
      simp
    have hset := ca_set C i.toNat v
    have hl : (C.set i.toNat v).length = 8 := by simp [hC]
    generalize C.set i.toNat v = D at *
    go_wp2_with (first
      | (refine wpList_load_row rfl 24 _ rfl w.heap.size rfl 24 (ca D) (0, 0) _ (al (heap_alloc_new w _) _) Try.underlying24 rfl (i24 hl) ?_)
      | (refine wpList_store_row rfl 24 _ _ rfl (w.heap.size + 1) (ca D) rfl rfl 24 _ (h2 w _ _) (i24 hl) (by rw [ca_size, hl]; rfl) (ca_one _) ?_))
    refine bodyPost_ret (results_cell_tmp (p := 6) (q := 7) rfl _ _ (w.heap.size + 1) 24 (ca D) (0, 0) 8 22 rfl (setRow_heap _ _ _ _ _ _ (h2 w _ _)) Try.underlying24 (i24 hl)) rfl ⟨rfl, ?_⟩
    exact Below.setRow (((Below.refl _ _).alloc (Nat.le_refl _) _).alloc (by simp) _) (by omega) _
  · rw [show ptC C i v = [0, 0, 0, 0, 0, 0, 0, 0] from if_neg h, show gtE i = 2 from if_neg h]
    unfold inW at h
    have hi : i < 0 ∨ 8 ≤ i := by omega
    clear h
    rcases hi with hn | hn
    all_goals
      go_enter Try.func13, Try.ntmps13
      go_wp2
      refine bodyPost_ret (v := .tuple #[.agg (ca [0, 0, 0, 0, 0, 0, 0, 0]), .int .i64 2]) (by simp [results, Try.results13, go_sem, ca]) rfl ⟨rfl, ?_⟩
      repeat (first | exact Below.refl _ _ | refine Below.alloc ?_ (by simp <;> omega) _ | refine Below.drew ?_ | refine Below.setCell ?_ (by simp <;> omega) _)

set_option maxHeartbeats 1000000 in
theorem rput_any (C : List Int) (hC : C.length = 8) (i v : Int) (w : World) :
    Calls Try.prog 14 #[.agg (ca C), .int .i64 i, .int .u64 v] w fun e w' => e = .returned (.tuple #[.agg (ca (ptC C i v)), .int .i64 (gtE i)]) ∧ Below w.heap.size w w' := by
  by_cases h : inW i
  · rw [show ptC C i v = C.set i.toNat v from if_pos h, show gtE i = 0 from if_pos h]
    obtain ⟨h0, h1⟩ := h
    have hcell : (w.alloc (.cells (ca C) 24)).cell? ⟨w.heap.size, i.toNat, none⟩ = some (.int .u64 (C.getD i.toNat 0)) := by
      rw [cell_of_row _ _ _ (ca C) 24 (0,0) (heap_alloc_new _ _), ca_get C _ (by omega)]
      simp
    have hfr := frozen_of_row (w.alloc (.cells (ca C) 24)) w.heap.size i.toNat _ _ (heap_alloc_new _ _)
    go_enter Try.func14, Try.ntmps14
    have hC1 : (ca C)[i.toNat]? = some (.int .u64 (C.getD i.toNat 0)) := by
      rw [ca_get C _ (by omega)]
      simp
    have hset := ca_set C i.toNat v
    have hl : (C.set i.toNat v).length = 8 := by simp [hC]
    generalize C.set i.toNat v = D at *
    go_wp2_with (first
      | (refine wpList_load_row rfl 24 _ rfl w.heap.size rfl 24 (ca D) (0, 0) _ (al (heap_alloc_new w _) _) Try.underlying24 rfl (i24 hl) ?_)
      | (refine wpList_store_row rfl 24 _ _ rfl (w.heap.size + 1) (ca D) rfl rfl 24 _ (h2 w _ _) (i24 hl) (by rw [ca_size, hl]; rfl) (ca_one _) ?_))
    refine bodyPost_ret (results_cell_tmp (p := 6) (q := 7) rfl _ _ (w.heap.size + 1) 24 (ca D) (0, 0) 8 22 rfl (setRow_heap _ _ _ _ _ _ (h2 w _ _)) Try.underlying24 (i24 hl)) rfl ⟨rfl, ?_⟩
    exact Below.setRow (((Below.refl _ _).alloc (Nat.le_refl _) _).alloc (by simp) _) (by omega) _
  · rw [show ptC C i v = [0, 0, 0, 0, 0, 0, 0, 0] from if_neg h, show gtE i = 2 from if_neg h]
    unfold inW at h
    have hi : i < 0 ∨ 8 ≤ i := by omega
    clear h
    rcases hi with hn | hn
    all_goals
      go_enter Try.func14, Try.ntmps14
      go_wp2
      refine bodyPost_ret (v := .tuple #[.agg (ca [0, 0, 0, 0, 0, 0, 0, 0]), .int .i64 2]) (by simp [results, Try.results14, go_sem, ca]) rfl ⟨rfl, ?_⟩
      repeat (first | exact Below.refl _ _ | refine Below.alloc ?_ (by simp <;> omega) _ | refine Below.drew ?_ | refine Below.setCell ?_ (by simp <;> omega) _)
end Go.Proofs.Ytgibkebdkhildaa
