/- The contract of pressure.Run where the marks and the numbers are valid. Conditions: the marks and numbers are found valid; at most 1000000 numbers. -/
import Derived.Test.YtfjfmhkifaiakaaM2
import Derived.Outline
namespace Go.Proofs.Ytfjfmhkifaiakaa
open Go.RowKit Go.Shelf
set_option linter.unusedVariables false
set_option linter.unusedSimpArgs false

attribute [local go_sem] Oper.semAt_some

theorem kc {w w1 : World} {a : Addr} {v : Value} (hb : Below w.heap.size w w1) (h : w.cell? a = some v) : w1.cell? a = some v := by
  rw [hb.cell (World.block_lt_of_cell? w _ h)]; exact h
theorem al {w : World} {k : Nat} {x : Obj} (h : w.heap[k]? = some x) (o : Obj) : (w.alloc o).heap[k]? = some x := by
  rw [Below.heap_alloc w o k (Array.getElem?_eq_some_iff.1 h).1, h]
theorem Boxed3.new (W : World) (x y z : Value) : (W.alloc (.cells #[x, y, z] 23)).heap[W.heap.size]? = some (.cells #[x, y, z] 23 (0, 0)) := World.alloc_heap_new W _
theorem blk_own {β : Type} (B0 Bm : Nat) (cs : Array Value) (t : TypeId) : OwnFrom B0 (fun (_ : β) W => W.heap[Bm]? = some (.cells cs t (0, 0))) := fun s A B row hs hg hr =>
  (hg.block Bm (Array.getElem?_eq_some_iff.1 hs).1 (fun e => by obtain ⟨_, o, ho, hc⟩ := hr Bm e.symm; rw [hs] at ho; cases ho; cases hc)).trans hs
theorem kept_bm {W w1 : World} {Bm B t e n₀ size k : Nat} {cs : Array Value} {v u : Value} {xs : List Value} {tmp : Obj} (h : W.heap[Bm]? = some (.cells cs t (0, 0))) (hrow : W.ownsRow n₀ e size v k xs) (ht : t ≠ e)
    (hg : (W.alloc tmp).grownBy w1 v.ownBlock) (hB : Bm ≠ B) : (w1.setCell ⟨B, 0, none⟩ u).heap[Bm]? = some (.cells cs t (0, 0)) := by
  rw [Below.heap_setCell _ _ _ Bm hB, hg.block Bm (Array.getElem?_eq_some_iff.1 (al h tmp)).1 ?_]
  · exact al h tmp
  · rcases hrow.2 with ⟨rfl, _⟩ | ⟨g, cap, cur, rfl, _, hgb, _⟩
    · simp [Value.ownBlock]
    · intro e'
      obtain rfl : Bm = g := by simpa [Value.ownBlock] using e'
      rw [h] at hgb
      simp at hgb
      exact ht hgb.2
theorem results_tmp2 {fn : Func} {t u : Tmp} (h : fn.results = #[.tmp t, .tmp u]) (tmps : Array Value) (P : Program) (w : World) :
    (results fn tmps).run P w = .ok (.tuple #[tmps.getD t undef, tmps.getD u undef]) w := by simp [results, h]

set_option maxRecDepth 100000 in
set_option maxHeartbeats 4000000 in
theorem run_ok (lo md hi : Int) (A : Option Addr) (cap : Nat) (zs : List Int) (hn : zs.length ≤ 1000000) (w : World) (hI : IntsB w.heap.size w A zs)
    (hask : ∀ w1, Below w.heap.size w w1 → Calls Try.prog 35 #[.agg #[.int .i64 lo, .int .i64 md, .int .i64 hi], .slice A zs.length cap] w1 fun e w2 => e = .returned (.int .i64 0) ∧ Below w1.heap.size w1 w2) :
    Calls Try.prog 21 #[.agg #[.int .i64 lo, .int .i64 md, .int .i64 hi], .slice A zs.length cap] w fun e W' => ∃ v, e = .returned (.tuple #[v, .int .i64 0]) ∧
      W'.ownsRow w.heap.size 4 1 v zs.length ((stTo md hi zs zs.length).map fun x => Value.bool x.2) ∧ Below w.heap.size w W' := by
  obtain ⟨i0, hi0, hz0, hz1, hz2⟩ := info_parts info4
  have HI4 := hid (And.intro hi0 (And.intro hz0 (And.intro hz1 hz2)))
  clear hi0 hz0 hz1 hz2
  have hb0 := (Below.refl w.heap.size w).alloc (Nat.le_refl _) (.cells #[.int .i64 lo, .int .i64 md, .int .i64 hi] 23)
  have HASK := hid (hask _ hb0)
  clear hask
  refine (callsIn_wide (n := 4)).1 ?_
  refine callsIn_of_wp_marks Try.func21 rfl trivial ?_ rfl
  simp only [Try.ntmps21, List.size_toArray, List.length_cons, List.length_nil, Nat.reduceAdd, Nat.reduceSub, Array.replicate_succ, Array.replicate_zero, List.push_toArray, List.append_toArray, List.nil_append, List.cons_append]
  gi_wp2_with (first
    | (refine ⟨trivial, ?_⟩; gi_at_call 35; refine (callsIn_wide.2 HASK.out).mono ?_; rintro e w2 ⟨rfl, hb2⟩; have c0 : w2.cell? ⟨w.heap.size, 0, none⟩ = some (.int .i64 lo) := kc hb2 (by simp); have c1 : w2.cell? ⟨w.heap.size, 1, none⟩ = some (.int .i64 md) := kc hb2 (by simp); have c2 : w2.cell? ⟨w.heap.size, 2, none⟩ = some (.int .i64 hi) := kc hb2 (by simp); have hz : w.heap.size < w2.heap.size := World.block_lt_of_cell? w2 _ c0)
    | (refine ⟨trivial, ?_⟩; gi_at_call 41; refine (callsIn_wide.2 (states_any _ _ _ _ _ _ _)).mono ?_; rintro e w3 ⟨rfl, rfl⟩))
  have bO := Boxed.new w2 38 (.slice none 0 0)
  have bM := Boxed3.new (w2.alloc (.cells #[.slice none 0 0] 38)) (.int .i64 lo) (.int .i64 md) (.int .i64 hi)
  have bH := Boxed.new ((w2.alloc (.cells #[.slice none 0 0] 38)).alloc (.cells #[.int .i64 lo, .int .i64 md, .int .i64 hi] 23)) 36 (.slice A zs.length cap)
  rw [World.size_alloc] at bM
  rw [World.size_alloc, World.size_alloc] at bH
  have hb2' : Below w.heap.size w w2 := hb0.trans (hb2.mono hb0.size)
  have hB0 : Below w.heap.size w (((w2.alloc (.cells #[.slice none 0 0] 38)).alloc (.cells #[.int .i64 lo, .int .i64 md, .int .i64 hi] 23)).alloc (.cells #[.slice A zs.length cap] 36)) :=
    ((hb2'.alloc hb2'.size _).alloc (by simp; omega) _).alloc (by simp; omega) _
  have hbM0 := al bM (.cells #[.slice A zs.length cap] 36)
  refine wpIn_rangeFunc_ownG rfl (by omega) (gf := 46) (lb := #[.pointer (some ⟨w2.heap.size + 1 + 1, 0, none⟩), .pointer (some ⟨w2.heap.size + 1, 0, none⟩)]) rfl trivial (enters_of Try.func46 (by kernel_rfl) rfl)
    (states_stops (w2.heap.size + 1 + 1) (w2.heap.size + 1) w.heap.size A cap lo md hi zs (by omega) _ (by simp; omega) bH.cell hbM0 (hI.below hB0)) KpM.trans
    (fun W l o o' hl ho hc hw => ⟨belowK_b (w := w2) (by omega) W l o o' (by simp at hl; omega) ho hc hw, World.putObj_heap_other (by simp at hl; omega)⟩) (Below.refl _ _) (fun _ => rfl)
    (fun (pre : List (Nat × Bool)) W => (∃ v, Boxed W w2.heap.size 38 v ∧ W.ownsRow w.heap.size 4 1 v pre.length (pre.map fun x => Value.bool x.2) ∧ True) ∧ Below w.heap.size w W ∧ W.heap[w2.heap.size + 1]? = some (.cells #[.int .i64 lo, .int .i64 md, .int .i64 hi] 23 (0, 0)))
    (fun _ _ _ => False)
    (OwnFrom.and (Own.from (holdsRow_own w.heap.size w2.heap.size 38 4 1 (fun pre : List (Nat × Bool) => pre.length) (fun pre => pre.map fun x => Value.bool x.2) (fun _ _ => True)) _) (OwnFrom.and (ownFrom_below (Nat.le_refl _) (by simp; omega)) (blk_own _ _ _ _)))
    (fun _ _ _ _ _ hs _ _ => hs)
    ⟨⟨_, (bO.alloc _).alloc _, World.ownsRow_nil _ _ _ _, trivial⟩, hB0, hbM0⟩
    (fun x => { tmps := #[.agg #[.int .i64 lo, .int .i64 md, .int .i64 hi], .slice A zs.length cap, .pointer (some ⟨w.heap.size, 0, none⟩), undef, .slice none 0 0, .int .i64 0, .int .i64 0, .pointer (some ⟨w2.heap.size, 0, none⟩), undef, .bool x.2, .agg #[.int .i64 lo, .int .i64 md, .int .i64 hi], .slice A zs.length cap, .int .i64 0, .int .i64 0, .bool false, undef, .agg #[.int .i64 lo, .int .i64 md, .int .i64 hi], .slice A zs.length cap, .func (.func 46) #[] #[.pointer (some ⟨w2.heap.size + 1 + 1, 0, none⟩), .pointer (some ⟨w2.heap.size + 1, 0, none⟩)], .int .i64 (x.1 : Int), .bool x.2, undef, undef, undef, undef, undef], defers := [] }) ?assign ?body ?done ?stop
  case assign =>
    intro l x W K hK
    gi_wp2
    exact hK
  case body =>
    rintro l pre x W ⟨⟨v, hv, hrow, -⟩, hB, hbm⟩ hlt
    have hc := hv.cell
    have HBM := hid hbm
    clear hbm
    gi_wp2_with (gi_at_builtin; refine wpListIn_append_own _ rfl _ _ 38 rfl w.heap.size 4 i0 (.bool false) 1 1 Try.underlying38 HI4.out.1 HI4.out.2.1 HI4.out.2.2.1 HI4.out.2.2.2 rfl (by decide) _ _ _ rfl (hrow.alloc _) ⟨W.heap.size, 0, none⟩ 1 1 [.bool x.2] rfl rfl (cell_one_new _ _ _) (by simp [Value.oneCell']) (by unfold maxLen; omega) (by omega) (by have := hB.size; simp; omega) ?_; intro v' w1 hown' hgrow _; obtain ⟨g', cap', rfl⟩ := ownsRow_succ hown'; obtain ⟨hv1, hv2, hr2, hk2, hb2⟩ := hv.appended (by decide) hrow hB.size (by omega) hown' hgrow; have hc1 := hv1.cell; have hf1 := hv1.frozen)
    have hbm2 := kept_bm HBM.out hrow (by decide) hgrow (show w2.heap.size + 1 ≠ w2.heap.size by omega) (u := .slice (some ⟨g', 0, none⟩) (pre.length + 1) cap')
    exact ⟨hk2.from _, ⟨hb2, hbm2.trans HBM.out.symm⟩, ⟨_, hv2, by simpa using hr2, trivial⟩, hB.trans hb2, hbm2⟩
  case done =>
    rintro D ys W hD rfl ⟨⟨v, hv, hrow, -⟩, hB, hbm⟩ hK
    have hc := hv.cell
    rw [stTo_len] at hrow
    gi_wp2
    refine ⟨by simp, .inl ⟨_, _, rfl, run_takeDeferred hK, ?_⟩⟩
    exact ⟨_, results_tmp2 rfl _ _ _, v, rfl, ownsRow_putObj hrow _ hK rfl, hB.trans (belowK_b (w := w) (Nat.le_refl _) W D _ _ (by simp at hD; omega) hK rfl rfl)⟩
  case stop =>
    rintro D c pre W _ _ h _
    exact h.elim
end Go.Proofs.Ytfjfmhkifaiakaa
