/- The contract of pressure.Spans where the marks and the numbers are valid. Conditions: the marks and numbers are found valid; at most 1000000 numbers. -/
import Derived.Test.YtfjfmhkifaiakaaM4
namespace Go.Proofs.Ytfjfmhkifaiakaa
open Go.RowKit Go.Shelf
set_option linter.unusedVariables false
set_option linter.unusedSimpArgs false

attribute [local go_sem] Oper.semAt_some

/-- the spans after some states -/
def spF (pre : List (Nat × Bool)) : List (Int × Int) × Bool := pre.foldl (fun s x => (spStep s.1 s.2 x.1 x.2, x.2)) ([], false)
theorem spF_snoc (pre : List (Nat × Bool)) (x : Nat × Bool) : spF (pre ++ [x]) = (spStep (spF pre).1 (spF pre).2 x.1 x.2, x.2) := by simp [spF]
theorem spFold_len (pre : List (Nat × Bool)) : ∀ (S : List (Int × Int)) (b : Bool), (b = true → S ≠ []) →
    (pre.foldl (fun s x => (spStep s.1 s.2 (x.1 : Int) x.2, x.2)) (S, b)).1.length ≤ S.length + pre.length ∧ ((pre.foldl (fun s x => (spStep s.1 s.2 (x.1 : Int) x.2, x.2)) (S, b)).2 = true → (pre.foldl (fun s x => (spStep s.1 s.2 (x.1 : Int) x.2, x.2)) (S, b)).1 ≠ []) := by
  induction pre with
  | nil => intro S b h; exact ⟨by simp, h⟩
  | cons x pre ih =>
    intro S b h
    rw [List.foldl_cons]
    have h1 : (x.2 = true → spStep S b x.1 x.2 ≠ []) := by
      intro hx
      unfold spStep
      rw [if_pos hx]
      split <;> simp
    have h2 : (spStep S b x.1 x.2).length ≤ S.length + 1 := by
      unfold spStep
      split
      · split
        · simp <;> omega
        · simp
      · omega
    obtain ⟨a1, a2⟩ := ih (spStep S b x.1 x.2) x.2 h1
    exact ⟨Nat.le_trans a1 (by simp; omega), a2⟩
theorem spF_len (pre : List (Nat × Bool)) : (spF pre).1.length ≤ pre.length ∧ ((spF pre).2 = true → (spF pre).1 ≠ []) := by
  have h := spFold_len pre [] false (by simp)
  exact ⟨by simpa [spF] using h.1, h.2⟩

theorem add_any (n₀ Bb Bl : Nat) (hn : n₀ ≤ Bb) (hn' : n₀ ≤ Bl) (hbl : Bb ≠ Bl) (pre : List (Nat × Bool)) (hS : pre.length ≤ 1000000) (x : Nat × Bool) (W : World) (hsz : n₀ ≤ W.heap.size) (hex : ∃ v, Boxed W Bl 45 v ∧ W.ownsRow n₀ 49 2 v (spF pre).1.length (spC (spF pre).1)) (hb : Boxed W Bb 4 (.bool (spF pre).2)) :
    Calls Try.prog 42 #[.int .i64 (x.1 : Int), .bool x.2, .pointer (some ⟨Bb, 0, none⟩), .pointer (some ⟨Bl, 0, none⟩)] W fun e W' => e = .returned (.tuple #[]) ∧ AddPost n₀ Bb Bl W W' (spF (pre ++ [x])).1 (spF (pre ++ [x])).2 := by
  obtain ⟨hl, hne⟩ := spF_len pre
  rw [spF_snoc]
  generalize hSe : (spF pre).1 = S at *
  generalize hbe : (spF pre).2 = b at *
  obtain ⟨i, a⟩ := x
  cases a
  · exact add_f n₀ Bb Bl hn hbl S b i W hex hb
  · cases b
    · exact add_tf n₀ Bb Bl hn hn' hbl S (by omega) i W hsz hex hb
    · obtain ⟨T, s, rfl⟩ : ∃ T s, S = T ++ [s] := ⟨S.dropLast, S.getLast (hne rfl), (List.dropLast_concat_getLast (hne rfl)).symm⟩
      obtain ⟨p, r⟩ := s
      simp at hl
      exact add_tt n₀ Bb Bl hn hn' hbl T p r (by omega) i W hex hb

theorem box_own {β : Type} (B0 Bb : Nat) (t : TypeId) (f : β → Value) : OwnFrom B0 (fun (s : β) W => Boxed W Bb t (f s)) := fun s A B row hs hg hr =>
  hs.kept hg (fun e => by obtain ⟨_, o, ho, hc⟩ := hr Bb e.symm; rw [show A.heap[Bb]? = _ from hs] at ho; cases ho; cases hc)

set_option maxRecDepth 100000 in
set_option maxHeartbeats 8000000 in
theorem spans_ok (lo md hi : Int) (A : Option Addr) (cap : Nat) (zs : List Int) (hn : zs.length ≤ 1000000) (w : World) (hI : IntsB w.heap.size w A zs)
    (hask : ∀ w1, Below w.heap.size w w1 → Calls Try.prog 35 #[.agg #[.int .i64 lo, .int .i64 md, .int .i64 hi], .slice A zs.length cap] w1 fun e w2 => e = .returned (.int .i64 0) ∧ Below w1.heap.size w1 w2) :
    Calls Try.prog 24 #[.agg #[.int .i64 lo, .int .i64 md, .int .i64 hi], .slice A zs.length cap] w fun e W' => ∃ v, e = .returned (.tuple #[v, .int .i64 0]) ∧
      W'.ownsRow w.heap.size 49 2 v (spF (stTo md hi zs zs.length)).1.length (spC (spF (stTo md hi zs zs.length)).1) ∧ Below w.heap.size w W' := by
  have hb0 := (Below.refl w.heap.size w).alloc (Nat.le_refl _) (.cells #[.int .i64 lo, .int .i64 md, .int .i64 hi] 23)
  have HASK := hid (hask _ hb0)
  clear hask
  refine (callsIn_wide (n := 4)).1 ?_
  refine callsIn_of_wp_marks Try.func24 rfl trivial ?_ rfl
  simp only [Try.ntmps24, List.size_toArray, List.length_cons, List.length_nil, Nat.reduceAdd, Nat.reduceSub, Array.replicate_succ, Array.replicate_zero, List.push_toArray, List.append_toArray, List.nil_append, List.cons_append]
  gi_wp2_with (first
    | (refine ⟨trivial, ?_⟩; gi_at_call 35; refine (callsIn_wide.2 HASK.out).mono ?_; rintro e w2 ⟨rfl, hb2⟩; have c0 : w2.cell? ⟨w.heap.size, 0, none⟩ = some (.int .i64 lo) := kc hb2 (by simp); have c1 : w2.cell? ⟨w.heap.size, 1, none⟩ = some (.int .i64 md) := kc hb2 (by simp); have c2 : w2.cell? ⟨w.heap.size, 2, none⟩ = some (.int .i64 hi) := kc hb2 (by simp); have hz : w.heap.size < w2.heap.size := World.block_lt_of_cell? w2 _ c0; have hz1 : w.heap.size < w2.heap.size + 1 := Nat.lt_succ_of_lt hz; have hz2 : w.heap.size < w2.heap.size + 1 + 1 := Nat.lt_succ_of_lt hz1)
    | (refine ⟨trivial, ?_⟩; gi_at_call 41; refine (callsIn_wide.2 (states_any _ _ _ _ _ _ _)).mono ?_; rintro e w3 ⟨rfl, rfl⟩))
  have hb2' : Below w.heap.size w w2 := hb0.trans (hb2.mono hb0.size)
  have bO := Boxed.new w2 45 (.slice none 0 0)
  generalize hW3 : w2.alloc (.cells #[.slice none 0 0] 45) = w3 at bO ⊢
  have s3 : w3.heap.size = w2.heap.size + 1 := by rw [← hW3]; simp
  have bB := Boxed.new w3 4 (.bool false)
  rw [s3] at bB
  have bO := bO.alloc (.cells #[.bool false] 4)
  have hb3 : Below w.heap.size w w3 := by rw [← hW3]; exact hb2'.alloc hb2'.size _
  have hb4 := hb3.alloc hb3.size (.cells #[.bool false] 4)
  generalize hW4 : w3.alloc (.cells #[.bool false] 4) = w4 at bO bB hb4 ⊢
  have s4 : w4.heap.size = w2.heap.size + 1 + 1 := by rw [← hW4]; simp [s3]
  have bC := Boxed.new w4 64 (.func (.func 42) #[] #[.pointer (some ⟨w2.heap.size + 1, 0, none⟩), .pointer (some ⟨w2.heap.size, 0, none⟩)])
  rw [s4] at bC
  have bO := bO.alloc (.cells #[.func (.func 42) #[] #[.pointer (some ⟨w2.heap.size + 1, 0, none⟩), .pointer (some ⟨w2.heap.size, 0, none⟩)]] 64)
  have bB := bB.alloc (.cells #[.func (.func 42) #[] #[.pointer (some ⟨w2.heap.size + 1, 0, none⟩), .pointer (some ⟨w2.heap.size, 0, none⟩)]] 64)
  have hb5 := hb4.alloc hb4.size (.cells #[.func (.func 42) #[] #[.pointer (some ⟨w2.heap.size + 1, 0, none⟩), .pointer (some ⟨w2.heap.size, 0, none⟩)]] 64)
  generalize hW5 : w4.alloc (.cells #[.func (.func 42) #[] #[.pointer (some ⟨w2.heap.size + 1, 0, none⟩), .pointer (some ⟨w2.heap.size, 0, none⟩)]] 64) = w5 at bO bB bC hb5 ⊢
  have s5 : w5.heap.size = w2.heap.size + 1 + 1 + 1 := by rw [← hW5]; simp [s4]
  have bM := World.alloc_heap_new w5 (.cells #[.int .i64 lo, .int .i64 md, .int .i64 hi] 23)
  rw [s5] at bM
  have bO := bO.alloc (.cells #[.int .i64 lo, .int .i64 md, .int .i64 hi] 23)
  have bB := bB.alloc (.cells #[.int .i64 lo, .int .i64 md, .int .i64 hi] 23)
  have bC := bC.alloc (.cells #[.int .i64 lo, .int .i64 md, .int .i64 hi] 23)
  have hb6 := hb5.alloc hb5.size (.cells #[.int .i64 lo, .int .i64 md, .int .i64 hi] 23)
  generalize hW6 : w5.alloc (.cells #[.int .i64 lo, .int .i64 md, .int .i64 hi] 23) = w6 at bO bB bC bM hb6 ⊢
  have s6 : w6.heap.size = w2.heap.size + 1 + 1 + 1 + 1 := by rw [← hW6]; simp [s5]
  have bH := Boxed.new w6 36 (.slice A zs.length cap)
  rw [s6] at bH
  have bO := bO.alloc (.cells #[.slice A zs.length cap] 36)
  have bB := bB.alloc (.cells #[.slice A zs.length cap] 36)
  have bC := bC.alloc (.cells #[.slice A zs.length cap] 36)
  have bM := al bM (.cells #[.slice A zs.length cap] 36)
  have hb7 := hb6.alloc hb6.size (.cells #[.slice A zs.length cap] 36)
  generalize hW7 : w6.alloc (.cells #[.slice A zs.length cap] 36) = w7 at bO bB bC bM bH hb7 ⊢
  have s7 : w7.heap.size = w2.heap.size + 1 + 1 + 1 + 1 + 1 := by rw [← hW7]; simp [s6]
  have z2 := hb2'.size
  refine wpIn_rangeFunc_ownG rfl (by omega) (gf := 46) (lb := #[.pointer (some ⟨w2.heap.size + 1 + 1 + 1 + 1, 0, none⟩), .pointer (some ⟨w2.heap.size + 1 + 1 + 1, 0, none⟩)]) rfl trivial (enters_of Try.func46 (by kernel_rfl) rfl)
    (states_stops (w2.heap.size + 1 + 1 + 1 + 1) (w2.heap.size + 1 + 1 + 1) w.heap.size A cap lo md hi zs (by omega) w7 (by omega) bH.cell bM (hI.below hb7)) KpM.trans
    (fun W l o o' hl ho hc hw => ⟨belowK_b (w := w2) (by omega) W l o o' (by omega) ho hc hw, World.putObj_heap_other (by omega)⟩) (Below.refl _ _) (fun _ => rfl)
    (fun (pre : List (Nat × Bool)) W => (∃ v, Boxed W w2.heap.size 45 v ∧ W.ownsRow w.heap.size 49 2 v (spF pre).1.length (spC (spF pre).1) ∧ True) ∧ Below w.heap.size w W ∧ Boxed W (w2.heap.size + 1) 4 (.bool (spF pre).2) ∧ Boxed W (w2.heap.size + 1 + 1) 64 (.func (.func 42) #[] #[.pointer (some ⟨w2.heap.size + 1, 0, none⟩), .pointer (some ⟨w2.heap.size, 0, none⟩)]) ∧ W.heap[w2.heap.size + 1 + 1 + 1]? = some (.cells #[.int .i64 lo, .int .i64 md, .int .i64 hi] 23 (0, 0)))
    (fun _ _ _ => False)
    (OwnFrom.and (Own.from (holdsRow_own w.heap.size w2.heap.size 45 49 2 (fun pre : List (Nat × Bool) => (spF pre).1.length) (fun pre => spC (spF pre).1) (fun _ _ => True)) _) (OwnFrom.and (ownFrom_below (Nat.le_refl _) (by omega)) (OwnFrom.and (box_own _ _ _ (fun pre => .bool (spF pre).2)) (OwnFrom.and (box_own _ _ _ (fun _ => .func (.func 42) #[] #[.pointer (some ⟨w2.heap.size + 1, 0, none⟩), .pointer (some ⟨w2.heap.size, 0, none⟩)])) (blk_own _ _ _ _)))))
    (fun _ _ _ _ _ hs _ _ => hs)
    ⟨⟨_, bO, World.ownsRow_nil _ _ _ _, trivial⟩, hb7, bB, bC, bM⟩
    (fun x => { tmps := #[.agg #[.int .i64 lo, .int .i64 md, .int .i64 hi], .slice A zs.length cap, .pointer (some ⟨w.heap.size, 0, none⟩), undef, .slice none 0 0, .int .i64 0, .int .i64 0, .pointer (some ⟨w2.heap.size, 0, none⟩), .pointer (some ⟨w2.heap.size + 1, 0, none⟩), .pointer (some ⟨w2.heap.size + 1 + 1, 0, none⟩), .int .i64 (x.1 : Int), .bool x.2, .agg #[.int .i64 lo, .int .i64 md, .int .i64 hi], .slice A zs.length cap, .int .i64 0, .int .i64 0, .bool false, undef, .func (.func 42) #[] #[.pointer (some ⟨w2.heap.size + 1, 0, none⟩), .pointer (some ⟨w2.heap.size, 0, none⟩)], .agg #[.int .i64 lo, .int .i64 md, .int .i64 hi], .slice A zs.length cap, .func (.func 46) #[] #[.pointer (some ⟨w2.heap.size + 1 + 1 + 1 + 1, 0, none⟩), .pointer (some ⟨w2.heap.size + 1 + 1 + 1, 0, none⟩)], .int .i64 (x.1 : Int), .bool x.2, undef, undef, undef, undef, undef], defers := [] }) ?assign ?body ?done ?stop
  case assign =>
    intro l x W K hK
    gi_wp2
    exact hK
  case body =>
    rintro l pre x W ⟨⟨v, hv, hrow, -⟩, hB, hbb, hbc, hbm⟩ hlt
    have hcc := hbc.cell
    have HBM := hid hbm
    have HBC := hid hbc
    have HADD := hid (add_any w.heap.size (w2.heap.size + 1) w2.heap.size (by omega) (by omega) (by omega) pre (by omega) x W hB.size ⟨v, hv, hrow⟩ hbb)
    clear hbm hbc hbb hv hrow
    gi_wp2_with (refine ⟨trivial, ?_⟩; gi_at_call 42; refine (CallsIn.inRound l (callsIn_wide.2 HADD.out)).mono ?_; rintro e w8 ⟨rfl, hp⟩)
    obtain ⟨⟨v', hv', hr'⟩, hbb', hko, hbl, hoth⟩ := hp
    have hbm' := hoth _ _ _ HBM.out (by decide) (by omega) (by omega)
    have hbc' : Boxed w8 (w2.heap.size + 1 + 1) 64 _ := hoth _ _ _ HBC.out (by decide) (by omega) (by omega)
    exact ⟨hko.from _, ⟨hbl, hbm'.trans HBM.out.symm⟩, ⟨_, hv', hr', trivial⟩, hB.trans hbl, hbb', hbc', hbm'⟩
  case done =>
    rintro D ys W hD rfl ⟨⟨v, hv, hrow, -⟩, hB, _, _, _⟩ hK
    have hc := hv.cell
    gi_wp2
    refine ⟨by simp, .inl ⟨_, _, rfl, run_takeDeferred hK, ?_⟩⟩
    exact ⟨_, results_tmp2 rfl _ _ _, v, rfl, ownsRow_putObj hrow _ hK rfl, hB.trans (belowK_b (w := w) (Nat.le_refl _) W D _ _ (by omega) hK rfl rfl)⟩
  case stop =>
    rintro D c pre W _ _ h _
    exact h.elim
end Go.Proofs.Ytfjfmhkifaiakaa
