/- Tallies as one value; a law for a range over an iterator that keeps its state in a block of its own; the iterator of plans. Conditions stand at each theorem. -/
import Derived.Test.YtikejheoakhojaaM3
import Derived.RangeFuncBox
import Derived.RangeFuncLeaves
import Derived.RangeFuncCalls
import Derived.Shelf.Abstract
import Derived.OwnWalkIn
import Derived.TacticsInMore
import Derived.LoopNIn
import Derived.LoopIn
namespace Go.Proofs.Ytikejheoakhojaa
open Go.RowKit Go.Shelf
set_option linter.unusedVariables false
set_option linter.unusedSimpArgs false

structure Ty where
  f0 : Int
  f1 : Int
  f2 : Int
  f3 : Int
  f4 : Bool
  f5 : Int
  f6 : Int
  f7 : Int
  f8 : Int
  f9 : Bool
  f10 : Int
  f11 : Int
  f12 : Int
  f13 : Int
  f14 : Int
def Ty.c (t : Ty) : Array Value := #[.int .i64 t.f0, .int .i64 t.f1, .int .i64 t.f2, .int .i64 t.f3, .bool t.f4, .int .i64 t.f5, .int .i64 t.f6, .int .i64 t.f7, .int .i64 t.f8, .bool t.f9, .int .i64 t.f10, .int .i64 t.f11, .int .i64 t.f12, .int .i64 t.f13, .int .i64 t.f14]
def Ty.dir (t : Ty) : Int := dirF t.f5 t.f6 t.f7 t.f10 t.f11 t.f12 t.f13 t.f14
/-- a tally after a step -/
def Ty.aft (t : Ty) (s : Int) : Ty :=
  if s = 1 then { t with f5 := t.f5 - (if t.f5 < 4 then t.f5 else 4) }
  else if s = 4 then (if 0 < t.f7 then { t with f7 := t.f7 - 1, f13 := t.f13 - 1, f14 := t.f14 - 1, f10 := t.f10 + 1, f9 := false } else { t with f6 := t.f6 - 1, f13 := t.f13 - 1, f14 := t.f14 - 1, f10 := t.f10 + 1, f9 := false })
  else t
/-- a tally's numbers are small -/
def Ty.Ok (t : Ty) : Prop := 0 ≤ t.f5 ∧ t.f5 ≤ 256 ∧ 0 ≤ t.f6 ∧ t.f6 ≤ 256 ∧ 0 ≤ t.f7 ∧ t.f7 ≤ 256 ∧ 0 ≤ t.f10 ∧ t.f10 ≤ t.f11 ∧ t.f11 ≤ 256 ∧ 0 ≤ t.f13 ∧ t.f13 ≤ 256 ∧ 0 ≤ t.f14 ∧ t.f14 ≤ 256
theorem wrF_iff (a6 a7 a10 a11 a13 a14 : Int) : wrF a6 a7 a10 a11 a13 a14 = true ↔ (mxI a6 a7 ≠ 0 ∧ a10 ≠ a11 ∧ a13 ≠ 0 ∧ a14 ≠ 0) := by
  unfold wrF hdF hdB
  by_cases h0 : mxI a6 a7 = 0 <;> by_cases h1 : a10 = a11 <;> by_cases h2 : a13 = 0 <;> by_cases h3 : a14 = 0 <;> simp [hdTo, h0, h1, h2, h3]
theorem Ty.Ok.aft {t : Ty} (h : t.Ok) : (t.aft t.dir).Ok := by
  unfold Ty.dir dirF
  by_cases h1 : obF t.f5 = true
  · rw [if_pos h1]
    unfold Ty.aft Ty.Ok at *
    rw [if_pos rfl]
    simp only
    split <;> omega
  · rw [if_neg h1]
    by_cases h2 : wrF t.f6 t.f7 t.f10 t.f11 t.f13 t.f14 = true
    · rw [if_pos h2]
      have h3 := (wrF_iff _ _ _ _ _ _).1 h2
      unfold mxI at h3
      unfold Ty.aft Ty.Ok at *
      rw [if_neg (by omega), if_pos rfl]
      split
      · simp only
        omega
      · rename_i h4
        simp only
        split at h3 <;> omega
    · rw [if_neg h2]
      have e : ∀ s : Int, s ≠ 1 → s ≠ 4 → t.aft s = t := fun s a b => by unfold Ty.aft; rw [if_neg a, if_neg b]
      split
      · rw [e 5 (by omega) (by omega)]; exact h
      · rw [e 6 (by omega) (by omega)]; exact h
/-- the tally after k steps, and the steps -/
def Ty.at (t : Ty) : Nat → Ty
  | 0 => t
  | k + 1 => (t.at k).aft (t.at k).dir
def Ty.steps (t : Ty) (k : Nat) : List Int := (List.range k).map fun j => (t.at j).dir
theorem Ty.steps_succ (t : Ty) (k : Nat) : t.steps (k + 1) = t.steps k ++ [(t.at k).dir] := by simp [Ty.steps, List.range_succ]
theorem Ty.steps_len (t : Ty) (k : Nat) : (t.steps k).length = k := by simp [Ty.steps]
theorem Ty.Ok.at {t : Ty} (h : t.Ok) (k : Nat) : (t.at k).Ok := by
  induction k with
  | zero => exact h
  | succ k ih => exact ih.aft

/-- what the contract of tally.after says of small tallies -/
def AfterC : Prop := ∀ (t : Ty), t.Ok → ∀ w : World, Calls Try.prog 42 #[.agg t.c, .int .i64 t.dir] w fun e w' => e = .returned (.agg (t.aft t.dir).c) ∧ Below w.heap.size w w'

/-! ### A range over an iterator that writes a block Bt of its own -/
variable {F : Fence} {n : Nat} {P : Program}
/-- the iterator's own steps: nothing but block Bt turns -/
def StepsAt (Bt : Nat) (A B : World) : Prop := A.grownBy B (some Bt)
def AbidesAt {β : Type} (Bt : Nat) (J : β → World → Prop) : Prop := ∀ s A B, J s A → StepsAt Bt A B → J s B

theorem range_at {α : Type} {g : Operand} {ps : Array Tmp} {assign body : Code} {Q : Exit → Act → World → Prop} {a : Act} {w : World}
    (hro : F.round = none) (h1 : 1 ≤ n) {gf : Nat} {lb : Array Value} (hg : a.eval g = .func (.func gf) #[] lb) (hFg : F.fn gf) (eg : ∀ args w, (callFunc gf args).run P w = .ok (.enter gf args) w)
    (Bt : Nat) (hBt : Bt < w.heap.size) {encs : α → Array Value} {S Sp : List α → Prop} (hps : ∀ x, (encs x).size = ps.size)
    (I : List α → World → Prop) (Ix : Code → List α → World → Prop) (hI : OwnFrom w.heap.size I) (hIx : ∀ c, OwnFrom w.heap.size (Ix c)) (hIt : AbidesAt Bt I) (hIxt : ∀ c, AbidesAt Bt (Ix c))
    (hit : ∀ (l : Nat) (J Jx : List α → World → Prop) (W : World), Below w.heap.size w W → AbidesAt Bt J → AbidesAt Bt Jx → (∀ pre W1, J pre W1 → I pre W1) →
      (∀ pre x W1, J pre W1 → YieldAt F (n - 1 - 1) P l (encs x) W1 fun e W' =>
        (e = .returned (.bool true) ∧ J (pre ++ [x]) W' ∧ W'.heap[Bt]? = W1.heap[Bt]?) ∨ (e = .returned (.bool false) ∧ Jx (pre ++ [x]) W')) → J [] W →
      CallsIn F (n - 1) P gf (#[.func (.yield l) #[] #[]] ++ lb) W fun e W' => (∃ v, e = .returned v) ∧ ((∃ xs, S xs ∧ J xs W') ∨ (∃ pre, Sp pre ∧ Jx pre W')))
    (h0 : I [] w) (a₁ : α → Act)
    (hassign : ∀ (l : Nat) (x : α) (W : World) (K : Act → World → Prop), K (a₁ x) W →
      assign.wpIn (F.inRound l) (n - 1 - 1) P (Exit.then K (fun _ _ _ => False)) { tmps := (ps.zip (encs x)).foldl (fun t (p, v) => t.setIfInBounds p v) a.tmps, defers := [] } W)
    (hbody : ∀ (l : Nat) (pre : List α) (x : α) (W : World), I pre W → body.wpIn (F.inRound l) (n - 1 - 1) P (ownPostG w.heap.size (fun A B => B.heap[Bt]? = A.heap[Bt]?) I Ix (pre ++ [x]) W) (a₁ x) W)
    (hdone : ∀ (D : Nat) (xs : List α) (W : World), w.heap.size ≤ D → S xs → I xs W → W.heap[D]? = some (.deferred (some [])) → Q .normal { a with defers := { target := .collected D, args := #[] } :: a.defers } W)
    (hstop : ∀ (D : Nat) (c : Code) (pre : List α) (W : World), w.heap.size ≤ D → Sp pre → Ix c pre W → W.heap[D]? = some (.deferred (some [])) → c.wpIn F n P Q { a with defers := { target := .collected D, args := #[] } :: a.defers } W) :
    (Code.rangeFunc g ps assign body).wpIn F n P Q a w := by
  refine wpIn_rangeFunc ?_
  intro fn hfn
  rw [hro]
  -- the loop's record, and the two blocks that the loop lays
  let R : LoopState → Option Code → Obj := fun st pe => .loop { state := st, pending := pe, fn, tmps := a.tmps, params := ps, assign, body, defers := w.heap.size }
  have hRn : ∀ st pe, (R st pe).isCells = false := fun _ _ => rfl
  let L := w.heap.size + 1
  let W1 := (w.alloc (.deferred (some []))).alloc (R .ready none)
  have z1 : W1.heap.size = w.heap.size + 2 := by simp [W1]
  have hL : W1.heap[L]? = some (R .ready none) := by
    have := World.alloc_heap_new (w.alloc (.deferred (some []))) (R .ready none)
    rwa [World.size_alloc] at this
  have hD : W1.heap[w.heap.size]? = some (.deferred (some [])) := (Below.heap_alloc _ _ _ (by simp)).trans (World.alloc_heap_new w _)
  have hb1 : Below w.heap.size w W1 := ((Below.refl _ w).alloc (Nat.le_refl _) _).alloc (by simp) _
  have hBL : L ≠ Bt := by show w.heap.size + 1 ≠ Bt; omega
  have hBD : w.heap.size ≠ Bt := by omega
  have keepT : ∀ {A B : World} {k : Nat} {x : Obj}, StepsAt Bt A B → k ≠ Bt → A.heap[k]? = some x → B.heap[k]? = some x := fun hs hk hx =>
    (hs.block _ (Array.getElem?_eq_some_iff.1 hx).1 (fun e => hk (Option.some.inj e))).trans hx
  refine ⟨L, [{ target := .collected w.heap.size, args := #[] }], W1, { target := .fn (.func gf) lb, args := #[.func (.yield L) #[] #[]] }, W1, gf, #[.func (.yield L) #[] #[]] ++ lb, W1, run_enterLoop_outer _ _ _ _ _, ?_, ?_, ?_, fun _ => h1, ?_⟩
  · simp only [resolve, hg]; simp [go_sem]
  · intro f' hf'; simp [Target.leads] at hf'; subst hf'; exact hFg
  · simp [invoke, go_sem, eg]
  · refine (hit L (fun pre W => I pre W ∧ W.heap[L]? = some (R .ready none) ∧ W.heap[w.heap.size]? = some (.deferred (some [])))
      (fun pre W => ∃ c, Ix c pre W ∧ W.heap[L]? = some (R .done (some c)) ∧ W.heap[w.heap.size]? = some (.deferred (some []))) W1 hb1
      (fun s A B hs ht => ⟨hIt s A B hs.1 ht, keepT ht hBL hs.2.1, keepT ht hBD hs.2.2⟩)
      (fun s A B hs ht => by obtain ⟨c, hc, h2, h3⟩ := hs; exact ⟨c, hIxt c s A B hc ht, keepT ht hBL h2, keepT ht hBD h3⟩)
      (fun pre W1 h => h.1) ?_ ⟨hI.alloc _ (hI.alloc _ h0), hL, hD⟩).mono ?_
    · rintro pre x W ⟨hi, hl, hd⟩
      have hlt : L < W.heap.size := (Array.getElem?_eq_some_iff.1 hl).1
      have hy := run_yield (P := P) (args := encs x) hl (hps x)
      refine ⟨fn, _, assign, body, hy, roundIn_of_wpIn hfn (hassign _ x W _ ⟨_, run_beginRound hl rfl, ?_⟩)⟩
      generalize hW2 : W.putObj L _ = W2
      have hl2 : W2.heap[L]? = some (R .busy none) := by rw [← hW2]; exact World.putObj_heap_same hlt
      have hd2 : W2.heap[w.heap.size]? = some (.deferred (some [])) := by rw [← hW2]; exact (World.putObj_heap_other (show w.heap.size ≠ w.heap.size + 1 by omega)).trans hd
      have ht2 : W2.heap[Bt]? = W.heap[Bt]? := by rw [← hW2]; exact World.putObj_heap_other (fun e => hBL e.symm)
      have hi2 : I pre W2 := by rw [← hW2]; exact hI.putObj _ hi (show w.heap.size ≤ w.heap.size + 1 by omega) hl rfl
      refine wpIn_mono (hbody L pre x W2 hi2) ?_
      -- the round's end, by whatever way
      have fin : ∀ (jump : Option Code) (W3 : World), KeepsFrom w.heap.size W2 W3 → ∃ W4, (Instr.endRound L jump).run P W3 = .ok (.bool jump.isNone) W4 ∧ W4 = W3.putObj L (R (if jump.isNone then .ready else .done) jump) ∧
          W3.heap[L]? = some (R .busy none) ∧ W4.heap[L]? = some (R (if jump.isNone then .ready else .done) jump) ∧ W4.heap[w.heap.size]? = some (.deferred (some [])) ∧ W4.heap[Bt]? = W3.heap[Bt]? := fun jump W3 hk => by
        have hl3 := hk.same _ _ (show w.heap.size ≤ w.heap.size + 1 by omega) hl2 rfl
        refine ⟨_, run_endRound (P := P) jump hl3, rfl, hl3, World.putObj_heap_same (Array.getElem?_eq_some_iff.1 hl3).1, (World.putObj_heap_other (show w.heap.size ≠ w.heap.size + 1 by omega)).trans (hk.same _ _ (Nat.le_refl _) hd2 rfl), World.putObj_heap_other (fun e => hBL e.symm)⟩
      rintro e a3 W3 hp
      cases e with
      | normal =>
        obtain ⟨hk, hkt, hi3⟩ := hp
        obtain ⟨W4, hr, hW4, hl3, hl4, hd4, ht4⟩ := fin none W3 hk
        exact ⟨_, _, hr, .inl ⟨rfl, ⟨by rw [hW4]; exact hI.putObj _ hi3 (show w.heap.size ≤ w.heap.size + 1 by omega) hl3 rfl, hl4, hd4⟩, by rw [ht4, hkt, ht2]⟩⟩
      | ret =>
        obtain ⟨hk, hi3⟩ := hp
        obtain ⟨W4, hr, hW4, hl3, hl4, hd4, ht4⟩ := fin (some .ret) W3 hk
        exact ⟨_, _, hr, .inr ⟨rfl, .ret, by rw [hW4]; exact (hIx _).putObj _ hi3 (show w.heap.size ≤ w.heap.size + 1 by omega) hl3 rfl, hl4, hd4⟩⟩
      | exit id =>
        obtain ⟨hk, hi3⟩ := hp
        obtain ⟨W4, hr, hW4, hl3, hl4, hd4, ht4⟩ := fin (some (.exit id)) W3 hk
        exact ⟨_, _, hr, .inr ⟨rfl, .exit id, by rw [hW4]; exact (hIx _).putObj _ hi3 (show w.heap.size ≤ w.heap.size + 1 by omega) hl3 rfl, hl4, hd4⟩⟩
      | goto t =>
        obtain ⟨hk, hi3⟩ := hp
        obtain ⟨W4, hr, hW4, hl3, hl4, hd4, ht4⟩ := fin (some (.goto t)) W3 hk
        exact ⟨_, _, hr, .inr ⟨rfl, .goto t, by rw [hW4]; exact (hIx _).putObj _ hi3 (show w.heap.size ≤ w.heap.size + 1 by omega) hl3 rfl, hl4, hd4⟩⟩
      | panic ch => exact hp.elim
      | outgrown => exact hp.elim
    · rintro e W2 ⟨⟨v, rfl⟩, (⟨xs, hS, hi, hl, hd⟩ | ⟨pre, hSp, c, hi, hl, hd⟩)⟩
      · exact ⟨none, _, run_endLoop (P := P) hl (by simp), hdone _ xs _ (Nat.le_refl _) hS (hI.putObj _ hi (show w.heap.size ≤ w.heap.size + 1 by omega) hl rfl) ((World.putObj_heap_other (show w.heap.size ≠ w.heap.size + 1 by omega)).trans hd)⟩
      · exact ⟨some c, _, run_endLoop (P := P) hl (by simp), hstop _ c pre _ (Nat.le_refl _) hSp ((hIx c).putObj _ hi (show w.heap.size ≤ w.heap.size + 1 by omega) hl rfl) ((World.putObj_heap_other (show w.heap.size ≠ w.heap.size + 1 by omega)).trans hd)⟩
end Go.Proofs.Ytikejheoakhojaa
