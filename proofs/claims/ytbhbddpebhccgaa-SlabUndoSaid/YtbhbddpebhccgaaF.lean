/- A law for a range over an iterator that keeps its state in a block of its own (turned from chapter 33); the iterator of places. -/
import Derived.Test.YtbhbddpebhccgaaC
import Derived.RangeFuncBox
import Derived.RangeFuncLeaves
import Derived.RangeFuncCalls
import Derived.RangeFuncWrites
import Derived.Shelf.Abstract
import Derived.OwnWalkIn
import Derived.TacticsInMore
import Derived.LoopNIn
import Derived.LoopIn
import Derived.Laws.Rows
import Derived.Laws.Tables
namespace Go.Proofs.Ytbhbddpebhccgaa
open Go.RowKit Go.Shelf
set_option linter.unusedVariables false
set_option linter.unusedSimpArgs false

theorem al {w : World} {k : Nat} {x : Obj} (h : w.heap[k]? = some x) (o : Obj) : (w.alloc o).heap[k]? = some x := by
  have hl : k < w.heap.size := (Array.getElem?_eq_some_iff.1 h).1
  rw [Below.heap_alloc w o k (by omega)]; exact h
theorem info3 : (Try.prog.info? 3).map (fun i => (i.zero, i.size, i.bytes)) = some (some (.int .i64 0), 1, 8) := by kernel_rfl
/-! ### A range over an iterator that writes a block Bt of its own -/
variable {F : Fence} {n : Nat} {P : Program}
/-- the iterator's own steps: nothing but block Bt turns -/
def StepsAt (Bt : Nat) (A B : World) : Prop := A.grownBy B (some Bt)
def AbidesAt {β : Type} (Bt : Nat) (J : β → World → Prop) : Prop := ∀ s A B, J s A → StepsAt Bt A B → J s B

theorem range_at {α : Type} {g : Operand} {ps : Array Tmp} {assign body : Code} {Q : Exit → Act → World → Prop} {a : Act} {w : World}
    (hro : F.round = none) (h1 : 1 ≤ n) {gf : Nat} {lb : Array Value} (hg : a.eval g = .func (.func gf) #[] lb) (hFg : F.fn gf) (eg : ∀ args w, (callFunc gf args).run P w = .ok (.enter gf args) w)
    (Bt : Nat) (hBt : Bt < w.heap.size) {encs : α → Array Value} {Pz : List α → α → Prop} {S Sp : List α → Prop} (hps : ∀ x, (encs x).size = ps.size)
    (I : List α → World → Prop) (Ix : Code → List α → World → Prop) (hI : OwnFrom w.heap.size I) (hIx : ∀ c, OwnFrom w.heap.size (Ix c)) (hIt : AbidesAt Bt I) (hIxt : ∀ c, AbidesAt Bt (Ix c))
    (hit : ∀ (l : Nat) (J Jx : List α → World → Prop) (W : World), Below w.heap.size w W → AbidesAt Bt J → AbidesAt Bt Jx → (∀ pre W1, J pre W1 → I pre W1) →
      (∀ pre x W1, Pz pre x → J pre W1 → YieldAt F (n - 1 - 1) P l (encs x) W1 fun e W' =>
        (e = .returned (.bool true) ∧ J (pre ++ [x]) W' ∧ W'.heap[Bt]? = W1.heap[Bt]?) ∨ (e = .returned (.bool false) ∧ Jx (pre ++ [x]) W')) → J [] W →
      CallsIn F (n - 1) P gf (#[.func (.yield l) #[] #[]] ++ lb) W fun e W' => (∃ v, e = .returned v) ∧ ((∃ xs, S xs ∧ J xs W') ∨ (∃ pre, Sp pre ∧ Jx pre W')))
    (h0 : I [] w) (a₁ : α → Act)
    (hassign : ∀ (l : Nat) (x : α) (W : World) (K : Act → World → Prop), K (a₁ x) W →
      assign.wpIn (F.inRound l) (n - 1 - 1) P (Exit.then K (fun _ _ _ => False)) { tmps := (ps.zip (encs x)).foldl (fun t (p, v) => t.setIfInBounds p v) a.tmps, defers := [] } W)
    (hbody : ∀ (l : Nat) (pre : List α) (x : α) (W : World), Pz pre x → I pre W → body.wpIn (F.inRound l) (n - 1 - 1) P (ownPostG w.heap.size (fun A B => B.heap[Bt]? = A.heap[Bt]?) I Ix (pre ++ [x]) W) (a₁ x) W)
    (hdone : ∀ (D : Nat) (xs : List α) (W : World), w.heap.size ≤ D → S xs → I xs W → W.heap[D]? = some (.deferred (some [])) → Q .normal { a with defers := { target := .collected D, args := #[] } :: a.defers } W)
    (hstop : ∀ (D : Nat) (c : Code) (pre : List α) (W : World), w.heap.size ≤ D → Sp pre → Ix c pre W → W.heap[D]? = some (.deferred (some [])) → c.wpIn F n P Q { a with defers := { target := .collected D, args := #[] } :: a.defers } W) :
    (Code.rangeFunc g ps assign body).wpIn F n P Q a w := by
  refine wpIn_rangeFunc ?_
  intro fn hfn
  rw [hro]
  -- the loop's record, and the two blocks that the loop lays
  let R : LoopState → Option Code → Obj := fun st pe => .loop { state := st, pending := pe, fn, tmps := a.tmps, params := ps, assign, body, defers := w.heap.size }
  have hRn : ∀ st pe, (R st pe).isCells = false := fun _ _ => rfl
  let L := w.heap.size + 1
  let W1 := (w.alloc (.deferred (some []))).alloc (R .ready none)
  have z1 : W1.heap.size = w.heap.size + 2 := by simp [W1]
  have hL : W1.heap[L]? = some (R .ready none) := by
    have := World.alloc_heap_new (w.alloc (.deferred (some []))) (R .ready none)
    rwa [World.size_alloc] at this
  have hD : W1.heap[w.heap.size]? = some (.deferred (some [])) := (Below.heap_alloc _ _ _ (by simp)).trans (World.alloc_heap_new w _)
  have hb1 : Below w.heap.size w W1 := ((Below.refl _ w).alloc (Nat.le_refl _) _).alloc (by simp) _
  have hBL : L ≠ Bt := by show w.heap.size + 1 ≠ Bt; omega
  have hBD : w.heap.size ≠ Bt := by omega
  have keepT : ∀ {A B : World} {k : Nat} {x : Obj}, StepsAt Bt A B → k ≠ Bt → A.heap[k]? = some x → B.heap[k]? = some x := fun hs hk hx =>
    (hs.block _ (Array.getElem?_eq_some_iff.1 hx).1 (fun e => hk (Option.some.inj e))).trans hx
  refine ⟨L, [{ target := .collected w.heap.size, args := #[] }], W1, { target := .fn (.func gf) lb, args := #[.func (.yield L) #[] #[]] }, W1, gf, #[.func (.yield L) #[] #[]] ++ lb, W1, run_enterLoop_outer _ _ _ _ _, ?_, ?_, ?_, fun _ => h1, ?_⟩
  · simp only [resolve, hg]; simp [go_sem]
  · intro f' hf'; simp [Target.leads] at hf'; subst hf'; exact hFg
  · simp [invoke, go_sem, eg]
  · refine (hit L (fun pre W => I pre W ∧ W.heap[L]? = some (R .ready none) ∧ W.heap[w.heap.size]? = some (.deferred (some [])))
      (fun pre W => ∃ c, Ix c pre W ∧ W.heap[L]? = some (R .done (some c)) ∧ W.heap[w.heap.size]? = some (.deferred (some []))) W1 hb1
      (fun s A B hs ht => ⟨hIt s A B hs.1 ht, keepT ht hBL hs.2.1, keepT ht hBD hs.2.2⟩)
      (fun s A B hs ht => by obtain ⟨c, hc, h2, h3⟩ := hs; exact ⟨c, hIxt c s A B hc ht, keepT ht hBL h2, keepT ht hBD h3⟩)
      (fun pre W1 h => h.1) ?_ ⟨hI.alloc _ (hI.alloc _ h0), hL, hD⟩).mono ?_
    · rintro pre x W hpz ⟨hi, hl, hd⟩
      have hlt : L < W.heap.size := (Array.getElem?_eq_some_iff.1 hl).1
      have hy := run_yield (P := P) (args := encs x) hl (hps x)
      refine ⟨fn, _, assign, body, hy, roundIn_of_wpIn hfn (hassign _ x W _ ⟨_, run_beginRound hl rfl, ?_⟩)⟩
      generalize hW2 : W.putObj L _ = W2
      have hl2 : W2.heap[L]? = some (R .busy none) := by rw [← hW2]; exact World.putObj_heap_same hlt
      have hd2 : W2.heap[w.heap.size]? = some (.deferred (some [])) := by rw [← hW2]; exact (World.putObj_heap_other (show w.heap.size ≠ w.heap.size + 1 by omega)).trans hd
      have ht2 : W2.heap[Bt]? = W.heap[Bt]? := by rw [← hW2]; exact World.putObj_heap_other (fun e => hBL e.symm)
      have hi2 : I pre W2 := by rw [← hW2]; exact hI.putObj _ hi (show w.heap.size ≤ w.heap.size + 1 by omega) hl rfl
      refine wpIn_mono (hbody L pre x W2 hpz hi2) ?_
      -- the round's end, by whatever way
      have fin : ∀ (jump : Option Code) (W3 : World), KeepsFrom w.heap.size W2 W3 → ∃ W4, (Instr.endRound L jump).run P W3 = .ok (.bool jump.isNone) W4 ∧ W4 = W3.putObj L (R (if jump.isNone then .ready else .done) jump) ∧
          W3.heap[L]? = some (R .busy none) ∧ W4.heap[L]? = some (R (if jump.isNone then .ready else .done) jump) ∧ W4.heap[w.heap.size]? = some (.deferred (some [])) ∧ W4.heap[Bt]? = W3.heap[Bt]? := fun jump W3 hk => by
        have hl3 := hk.same _ _ (show w.heap.size ≤ w.heap.size + 1 by omega) hl2 rfl
        refine ⟨_, run_endRound (P := P) jump hl3, rfl, hl3, World.putObj_heap_same (Array.getElem?_eq_some_iff.1 hl3).1, (World.putObj_heap_other (show w.heap.size ≠ w.heap.size + 1 by omega)).trans (hk.same _ _ (Nat.le_refl _) hd2 rfl), World.putObj_heap_other (fun e => hBL e.symm)⟩
      rintro e a3 W3 hp
      cases e with
      | normal =>
        obtain ⟨hk, hkt, hi3⟩ := hp
        obtain ⟨W4, hr, hW4, hl3, hl4, hd4, ht4⟩ := fin none W3 hk
        exact ⟨_, _, hr, .inl ⟨rfl, ⟨by rw [hW4]; exact hI.putObj _ hi3 (show w.heap.size ≤ w.heap.size + 1 by omega) hl3 rfl, hl4, hd4⟩, by rw [ht4, hkt, ht2]⟩⟩
      | ret =>
        obtain ⟨hk, hi3⟩ := hp
        obtain ⟨W4, hr, hW4, hl3, hl4, hd4, ht4⟩ := fin (some .ret) W3 hk
        exact ⟨_, _, hr, .inr ⟨rfl, .ret, by rw [hW4]; exact (hIx _).putObj _ hi3 (show w.heap.size ≤ w.heap.size + 1 by omega) hl3 rfl, hl4, hd4⟩⟩
      | exit id =>
        obtain ⟨hk, hi3⟩ := hp
        obtain ⟨W4, hr, hW4, hl3, hl4, hd4, ht4⟩ := fin (some (.exit id)) W3 hk
        exact ⟨_, _, hr, .inr ⟨rfl, .exit id, by rw [hW4]; exact (hIx _).putObj _ hi3 (show w.heap.size ≤ w.heap.size + 1 by omega) hl3 rfl, hl4, hd4⟩⟩
      | goto t =>
        obtain ⟨hk, hi3⟩ := hp
        obtain ⟨W4, hr, hW4, hl3, hl4, hd4, ht4⟩ := fin (some (.goto t)) W3 hk
        exact ⟨_, _, hr, .inr ⟨rfl, .goto t, by rw [hW4]; exact (hIx _).putObj _ hi3 (show w.heap.size ≤ w.heap.size + 1 by omega) hl3 rfl, hl4, hd4⟩⟩
      | panic ch => exact hp.elim
      | outgrown => exact hp.elim
    · rintro e W2 ⟨⟨v, rfl⟩, (⟨xs, hS, hi, hl, hd⟩ | ⟨pre, hSp, c, hi, hl, hd⟩)⟩
      · exact ⟨none, _, run_endLoop (P := P) hl (by simp), hdone _ xs _ (Nat.le_refl _) hS (hI.putObj _ hi (show w.heap.size ≤ w.heap.size + 1 by omega) hl rfl) ((World.putObj_heap_other (show w.heap.size ≠ w.heap.size + 1 by omega)).trans hd)⟩
      · exact ⟨some c, _, run_endLoop (P := P) hl (by simp), hstop _ c pre _ (Nat.le_refl _) hSp ((hIx c).putObj _ hi (show w.heap.size ≤ w.heap.size + 1 by omega) hl rfl) ((World.putObj_heap_other (show w.heap.size ≠ w.heap.size + 1 by omega)).trans hd)⟩
/-- a loop whose rounds are numbered, with a bound on the number -/
theorem rounds_ind {F : Fence} {n : Nat} {P : Program} {c : Code} {Q : Exit → Act → World → Prop} (N : Nat) (R : Nat → Act → World → Prop) (hlt : ∀ k a w, R k a w → k < N)
    (hstep : ∀ k a w, R k a w → c.wpIn F n P (Exit.then (R (k + 1)) Q) a w) (a : Act) (w : World) (h : R 0 a w) : (Code.loop c).wpIn F n P Q a w := by
  have key : ∀ m k a w, k + m = N → R k a w → Code.roundsIn F n P c Q m a w := by
    intro m
    induction m with
    | zero => intro k a w hk hr; have := hlt k a w hr; omega
    | succ m ih =>
      intro k a w hk hr
      rw [roundsIn_succ]
      refine wpIn_mono (hstep k a w hr) ?_
      intro e a' w' hq
      cases e with
      | normal => exact ih (k + 1) a' w' (by omega) hq
      | exit id => exact hq
      | goto l => exact hq
      | ret => exact hq
      | panic ch => exact hq
      | outgrown => exact hq
  exact wpIn_loop_rounds N (key N 0 a w (by omega) h)

theorem steps_below {Bt : Nat} {A B : World} (h : Below A.heap.size A B) : StepsAt Bt A B := ⟨h.os, h.tape, h.output, h.size, fun k hk _ => h.block k hk⟩
theorem steps_row (Bt : Nat) (A : World) (cs : Array Value) : StepsAt Bt A (A.setRow Bt cs) :=
  ⟨rfl, rfl, rfl, by simp, fun k _ hk => setRow_other A Bt k cs (fun e => hk (by rw [e]))⟩
/-- a struct's row loaded, stored, inside a fence -/
theorem wpListIn_load_row {F : Fence} {n : Nat} {P : Program} (w : World) {ops : Array Oper} {rest : List Oper} {o : Oper} {a : Act} {Q : Exit → Act → World → Prop}
    (hgd : o.guard = none) (ty : TypeId) (x : Operand) (hop : o.op = .load ty x) (g : Nat) (hx : a.eval x = .pointer (some ⟨g, 0, none⟩)) (v : Value) (hrun : (loadVar ty ⟨g, 0, none⟩).run P w = .ok v w)
    (h : wpListIn F n P ops Q rest (a.put o.dst v) w) : wpListIn F n P ops Q (o :: rest) a w := by
  refine wpListIn_plain hgd fun K hK' => ?_
  unfold Oper.wpIn
  refine ⟨?_, ?_⟩
  · simp [Oper.about, hop]
  · rw [Oper.semAt_plain F _ _ (by rw [hop]; intro c hc'; cases hc')]
    unfold execOp
    simp only [hop, hx, Instr.loadAt, Instr.sureAddr, Sem.run_bind, Sem.run_pure, Result.andThen_ok, hrun]
    exact hK' _ _ h
theorem wpListIn_store_row {F : Fence} {n : Nat} {P : Program} (w : World) {ops : Array Oper} {rest : List Oper} {o : Oper} {a : Act} {Q : Exit → Act → World → Prop}
    (hgd : o.guard = none) (ty : TypeId) (x y : Operand) (hop : o.op = .store ty x y) (g : Nat) (hx : a.eval x = .pointer (some ⟨g, 0, none⟩)) (v : Value) (hy : a.eval y = v) (w' : World) (hrun : (storeVar ty ⟨g, 0, none⟩ v).run P w = .ok () w')
    (h : wpListIn F n P ops Q rest (a.put o.dst undef) w') : wpListIn F n P ops Q (o :: rest) a w := by
  refine wpListIn_plain hgd fun K hK' => ?_
  unfold Oper.wpIn
  refine ⟨?_, ?_⟩
  · simp [Oper.about, hop]
  · rw [Oper.semAt_plain F _ _ (by rw [hop]; intro c hc'; cases hc')]
    unfold execOp
    simp only [hop, hx, hy, Instr.storeAt, Instr.sureAddr, Sem.run_bind, Sem.run_pure, Result.andThen_ok, hrun]
    exact hK' _ _ h
theorem set_below (Bn n : Nat) (h : n ≤ Bn) (W : World) (v : Value) : Below n W (W.setCell ⟨Bn, 0, none⟩ v) :=
  ⟨rfl, rfl, rfl, (KeepsWalks.setCell W _ v).size, fun k hk => Below.heap_setCell _ _ _ k (by show k ≠ Bn; omega)⟩
theorem blk_ownF {β : Type} (B0 Bm : Nat) (f : β → Obj) (hf : ∀ b, (f b).isCells = true) : OwnFrom B0 (fun (b : β) W => W.heap[Bm]? = some (f b)) := fun s A B row hs hg hr =>
  (hg.block Bm (Array.getElem?_eq_some_iff.1 hs).1 (fun e => by obtain ⟨_, o, ho, hc⟩ := hr Bm e.symm; rw [hs] at ho; cases ho; rw [hf] at hc; cases hc)).trans hs
theorem steps_keep {Bt Bm : Nat} {A B : World} {x : Obj} (hs : StepsAt Bt A B) (hne : Bm ≠ Bt) (h : A.heap[Bm]? = some x) : B.heap[Bm]? = some x :=
  (hs.block Bm (Array.getElem?_eq_some_iff.1 h).1 (fun e => hne (Option.some.inj e))).trans h
theorem steps_belowN {Bt n : Nat} {w A B : World} (hs : StepsAt Bt A B) (hn : n ≤ Bt) (hA : n ≤ A.heap.size) (h : Below n w A) : Below n w B :=
  h.trans ⟨hs.os, hs.tape, hs.output, hs.size, fun k hk => hs.block k (by omega) (fun e => by have := Option.some.inj e; omega)⟩

theorem row_free {W : World} {nb : Nat} {e : TypeId} {size k : Nat} {v : Value} {xs : List Value} (h : W.ownsRow nb e size v k xs) {b : Nat} (hb : b < nb) : some b ≠ v.ownBlock := by
  rcases h.2 with ⟨rfl, _⟩ | ⟨g, cap, cur, rfl, hg, _⟩
  · simp [Value.ownBlock]
  · intro e
    obtain rfl : b = g := by simpa [Value.ownBlock] using e
    omega
theorem row_base {W : World} {nb n : Nat} {e : TypeId} {size k : Nat} {v : Value} {xs : List Value} (h : W.ownsRow nb e size v k xs) (hn : n ≤ nb) : W.ownsRow n e size v k xs := by
  rcases h with ⟨h1, h2⟩
  refine ⟨h1, ?_⟩
  rcases h2 with ⟨rfl, h3⟩ | ⟨g, cap, cur, rfl, hg, h3⟩
  · exact .inl ⟨rfl, h3⟩
  · exact .inr ⟨g, cap, cur, rfl, Nat.le_trans hn hg, h3⟩
theorem appendedF {W w1 : World} {n₀ nb B : Nat} {t e : TypeId} {size : Nat} {v v' : Value} {k m : Nat} {xs ys : List Value} {tmp : Obj}
    (hv : Boxed W B t v) (hrow : W.ownsRow nb e size v k xs) (hnb : nb ≤ W.heap.size) (hB : B < nb) (hn₀ : n₀ ≤ B)
    (hown' : w1.ownsRow nb e size v' m ys) (hgrow : (W.alloc tmp).grownBy w1 v.ownBlock) :
    Boxed w1 B t v ∧ Boxed (w1.setCell ⟨B, 0, none⟩ v') B t v' ∧ (w1.setCell ⟨B, 0, none⟩ v').ownsRow nb e size v' m ys ∧ KeepsOthers W (w1.setCell ⟨B, 0, none⟩ v') ∧ Below n₀ W (w1.setCell ⟨B, 0, none⟩ v') ∧
      ∀ j, j < nb → j ≠ B → (w1.setCell ⟨B, 0, none⟩ v').heap[j]? = W.heap[j]? := by
  have hv1 : Boxed w1 B t v := (hv.alloc tmp).kept hgrow (row_free hrow hB)
  have hj : ∀ j, j < nb → w1.heap[j]? = W.heap[j]? := fun j hj => (hgrow.block j (by simp; omega) (row_free hrow hj)).trans (Below.heap_alloc W tmp j (by omega))
  refine ⟨hv1, hv1.set v', hown'.kept (grownBy_setCell' w1 B v') (.inr (row_free hown' hB).symm), ?_, ?_, ?_⟩
  · refine ((KeepsOthers.alloc W tmp).trans (KeepsOthers.of_grownBy hgrow fun j o ej hj => ?_)).trans (KeepsOthers.setCell _ _ _)
    rcases (hrow.alloc tmp).2 with ⟨rfl, _⟩ | ⟨g, cap, cur, rfl, _, hgb, _⟩
    · simp [Value.ownBlock] at ej
    · obtain rfl : g = j := by simpa [Value.ownBlock] using ej
      rw [hgb] at hj; cases hj; rfl
  · refine ⟨hgrow.os, hgrow.tape, hgrow.output, ?_, fun j hjn => ?_⟩
    · have h1 := hgrow.size
      have h2 := (KeepsWalks.setCell w1 ⟨B, 0, none⟩ v').size
      simp at h1
      omega
    · rw [Below.heap_setCell _ _ _ j (by show j ≠ B; omega)]
      exact hj j (by omega)
  · intro j h1 h2
    rw [Below.heap_setCell _ _ _ j h2]
    exact hj j h1

theorem al_b {A B : World} {o x : Obj} {k : Nat} (h : Below (A.alloc o).heap.size (A.alloc o) B) (hk : A.heap[k]? = some x) : B.heap[k]? = some x :=
  (h.block k (Array.getElem?_eq_some_iff.1 (al hk o)).1).trans (al hk o)
theorem box_b {A B : World} {o : Obj} {k : Nat} {t : TypeId} {v : Value} (h : Below (A.alloc o).heap.size (A.alloc o) B) (hk : Boxed A k t v) : Boxed B k t v := al_b h hk

/-- the byte without its lowest bit -/
def nx (x : Int) : Int := Go.bits .and .u8 x ((x - 1) % 256)
def itB (u : Int) : Nat → Int
  | 0 => u
  | k + 1 => nx (itB u k)
def plc (x : Int) : Int := tz (255 - x)
def placesTo (u : Int) (k : Nat) : List Int := (List.range k).map fun j => plc (itB u j)
theorem placesTo_succ (u : Int) (k : Nat) : placesTo u (k + 1) = placesTo u k ++ [plc (itB u k)] := by simp [placesTo, List.range_succ]
theorem placesTo_len (u : Int) (k : Nat) : (placesTo u k).length = k := by simp [placesTo]
theorem nx8 : ∀ n : Fin 256, 0 ≤ nx (n.val : Int) ∧ nx (n.val : Int) ≤ 255 := by decide +kernel
theorem nx_byte (u : Int) (u0 : 0 ≤ u) (u1 : u ≤ 255) : 0 ≤ nx u ∧ nx u ≤ 255 := fin256 (P := fun u => 0 ≤ nx u ∧ nx u ≤ 255) nx8 u u0 u1
theorem itB_byte (u : Int) (u0 : 0 ≤ u) (u1 : u ≤ 255) (k : Nat) : 0 ≤ itB u k ∧ itB u k ≤ 255 := by
  induction k with
  | zero => exact ⟨u0, u1⟩
  | succ k ih => exact nx_byte _ ih.1 ih.2
theorem it8 : ∀ n : Fin 256, itB (n.val : Int) 8 = 0 := by decide +kernel
theorem it_end (u : Int) (u0 : 0 ≤ u) (u1 : u ≤ 255) : itB u 8 = 0 := fin256 (P := fun u => itB u 8 = 0) it8 u u0 u1
/-- the places of a byte's bits -/
def pls : Nat → Int → List Int
  | 0, _ => []
  | n + 1, x => if x = 0 then [] else plc x :: pls n (nx x)
theorem itB_nx (u : Int) (k : Nat) : itB (nx u) k = itB u (k + 1) := by
  induction k with
  | zero => rfl
  | succ k ih => show nx (itB (nx u) k) = nx (itB u (k + 1)); rw [ih]
theorem pls_at : ∀ (n k : Nat) (u : Int), k ≤ n → (∀ j, j < k → itB u j ≠ 0) → itB u k = 0 → pls n u = placesTo u k := by
  intro n
  induction n with
  | zero => intro k u h _ _; obtain rfl : k = 0 := by omega
            rfl
  | succ n ih =>
    intro k u h hb he
    unfold pls
    cases k with
    | zero => rw [if_pos (show u = 0 from he)]; rfl
    | succ k =>
      have h0 : u ≠ 0 := hb 0 (by omega)
      rw [if_neg h0, ih k (nx u) (by omega) (fun j hj => by rw [itB_nx]; exact hb (j + 1) (by omega)) (by rw [itB_nx]; exact he)]
      unfold placesTo
      rw [List.range_succ_eq_map, List.map_cons, List.map_map]
      congr 1
      refine List.map_congr_left fun j _ => ?_
      show plc (itB (nx u) j) = plc (itB u (j + 1))
      rw [itB_nx]

set_option maxRecDepth 100000 in
set_option maxHeartbeats 4000000 in
theorem places1_in (l Bt : Nat) (u : Int) (u0 : 0 ≤ u) (u1 : u ≤ 255) (J Jx : List Int → World → Prop) (hJ : AbidesAt Bt J)
    (hY : ∀ pre x W1, pre.length < 8 → J pre W1 → YieldAt Fence.wide 2 Try.prog l #[.int .i64 x] W1 fun e W' =>
        (e = .returned (.bool true) ∧ J (pre ++ [x]) W' ∧ W'.heap[Bt]? = W1.heap[Bt]?) ∨ (e = .returned (.bool false) ∧ Jx (pre ++ [x]) W'))
    (W : World) (hT : Boxed W Bt 5 (.int .u8 u)) (h0 : J [] W) :
    CallsIn Fence.wide 3 Try.prog 33 #[.func (.yield l) #[] #[], .pointer (some ⟨Bt, 0, none⟩)] W fun e W' => (∃ v, e = .returned v) ∧
      ((∃ xs, (∃ k, xs = placesTo u k ∧ itB u k = 0 ∧ ∀ j, j < k → itB u j ≠ 0) ∧ J xs W') ∨ (∃ pre, True ∧ Jx pre W')) := by
  refine callsIn_of_wp Try.func33 rfl trivial ?_ rfl
  simp only [Try.ntmps33, List.size_toArray, List.length_cons, List.length_nil, Nat.reduceAdd, Nat.reduceSub, Array.replicate_succ, Array.replicate_zero, List.push_toArray, List.append_toArray, List.nil_append, List.cons_append]
  gi_wp2
  refine rounds_ind 9 (fun k a wr => (∃ v2 v3 v4 v5 v6 v7 v8 v9 v10 v11 v12 v13 : Value, a = { tmps := #[.func (.yield l) #[] #[], .pointer (some ⟨Bt, 0, none⟩), v2, v3, v4, v5, v6, v7, v8, v9, v10, v11, v12, v13], defers := [] }) ∧ J (placesTo u k) wr ∧ Boxed wr Bt 5 (.int .u8 (itB u k)) ∧ ∀ j, j < k → itB u j ≠ 0) ?_ ?_ _ _ ?_
  · rintro k a wr ⟨_, _, _, hno⟩
    by_cases h : k < 9
    · exact h
    · exact absurd (it_end u u0 u1) (hno 8 (by omega))
  · rintro k _ wr ⟨⟨v2, v3, v4, v5, v6, v7, v8, v9, v10, v11, v12, v13, rfl⟩, hj, hg, hno⟩
    have hby := itB_byte u u0 u1 k
    have HNX : Hid (itB u (k + 1) = nx (itB u k)) := hid rfl
    have HS := hid (placesTo_succ u k)
    have HNO := hid hno
    have hgH := hid hg
    have hjH := hid hj
    have hcw := hg.cell
    clear hg hj hno
    generalize hdd : itB u k = d at *
    have hdH := hid hdd
    clear hdd
    obtain ⟨d0, d1⟩ := hby
    by_cases hz : d = 0
    · subst hz
      gi_wp2
      refine bodyPost_end (results_none rfl _ _ _) rfl ?_
      exact ⟨⟨_, rfl⟩, .inl ⟨_, ⟨k, rfl, hdH.out, HNO.out⟩, hjH.out⟩⟩
    · have e0 : (d != 0) = true := by simp [hz]
      have hk8 : k < 8 := by
        by_cases h : k < 8
        · exact h
        · by_cases h8 : k = 8
          · subst h8; exact absurd (hdH.out.symm.trans (it_end u u0 u1)) hz
          · exact absurd (it_end u u0 u1) (HNO.out 8 (by omega))
      have HZ := hid hz
      clear hz
      have HT : ∀ w : World, CallsIn Fence.wide 2 Try.prog 29 #[.int .u8 d] w fun e w' => e = .returned (.int .i64 (plc d)) ∧ w = w' := fun w => callsIn_wide.2 (tz_any d (255 - d) d0 d1 (by omega) w)
      have HTH := hid HT
      clear HT
      gi_wp2_with (first | (refine ⟨trivial, ?_⟩; gi_at_call 29; refine (HTH.out _).mono ?_; rintro e w2 ⟨rfl, rfl⟩))
      obtain ⟨fn, tmps, assign, body, hy, hR⟩ := hY _ (plc d) wr (by rw [placesTo_len]; exact hk8) hjH.out
      rw [hy, Oper.uponIn_round]
      refine ⟨(fun h => by cases h), ?_⟩
      refine hR.mono ?_
      rintro e W3 (⟨rfl, hJ3, hk3⟩ | ⟨rfl, hJx3⟩)
      · have hb3 : Boxed W3 Bt 5 (.int .u8 d) := hk3.trans hgH.out
        have hc3 := hb3.cell
        have hf3 := hb3.frozen
        have HB3 := hid hb3
        have HJ3 := hid hJ3
        clear hb3 hJ3 hk3
        gi_wp2
        refine ⟨⟨_, _, _, _, _, _, _, _, _, _, _, _, rfl⟩, ?_, ?_, ?_⟩
        · rw [HS.out]
          exact hJ _ _ _ HJ3.out (grownBy_setCell' W3 Bt _)
        · rw [HNX.out]
          exact HB3.out.set _
        · intro j hj
          by_cases h : j = k
          · rw [h, hdH.out]; exact HZ.out
          · exact HNO.out j (by omega)
      · gi_wp2
        refine bodyPost_ret (results_none rfl _ _ _) rfl ?_
        exact ⟨⟨_, rfl⟩, .inr ⟨_, trivial, hJx3⟩⟩
  · exact ⟨⟨_, _, _, _, _, _, _, _, _, _, _, _, rfl⟩, h0, hT, fun j hj => absurd hj (Nat.not_lt_zero j)⟩

theorem places_any (u : Int) (w : World) : Calls Try.prog 32 #[.int .u8 u] w fun e w' => e = .returned (.func (.func 33) #[] #[.pointer (some ⟨w.heap.size, 0, none⟩)]) ∧ w' = w.alloc (.cells #[.int .u8 u] 5) := by
  go_enter Try.func32, Try.ntmps32
  go_wp2
  go_ret
  exact ⟨rfl, rfl⟩
/-- slab.Count -/
def cntV (f u : Int) : Int := if badF f then 0 else Lib.onesCount u.toNat
theorem ones_any (x : Int) (h0 : 0 ≤ x) (h1 : x ≤ 255) (w : World) :
    Calls Try.prog 30 #[.int .u8 x] w fun e w' => e = .returned (.int .i64 (Lib.onesCount x.toNat)) ∧ w = w' := by
  have H0 : wrap64 (Lib.pop8 x) = Lib.onesCount x.toNat := by
    have h := Lib.pop8_int x h0 h1
    unfold wrap64
    exact h
  have H := hid H0
  clear H0
  go_enter Try.func30, Try.ntmps30
  go_wp2
  go_ret
  exact ⟨ret_int H.out, rfl⟩
theorem count_any (f u : Int) (u0 : 0 ≤ u) (u1 : u ≤ 255) (w : World) :
    Calls Try.prog 17 #[.agg #[.int .i64 f, .int .u8 u]] w fun e w' => e = .returned (.tuple #[.int .i64 (cntV f u), .int .i64 (chkE f)]) ∧ Below w.heap.size w w' := by
  by_cases hb : badF f
  · have e1 : cntV f u = 0 := by unfold cntV; rw [if_pos hb]
    have e2 := chk_no hb
    have HC := hid e2
    rw [e1, e2]; clear e1 e2 hb
    go_enter Try.func17, Try.ntmps17
    go_wp2_with (go_at_call 15; refine (check_any _ _ _).mono ?_; rintro e w1 ⟨rfl, hb1⟩; rw [HC.out])
    refine bodyPost_ret (v := .tuple #[.int .i64 0, .int .i64 2]) (by simp [results, Try.results17, go_sem]) rfl ⟨rfl, ?_⟩
    exact ((Below.refl w.heap.size w).alloc (Nat.le_refl _) _).trans (hb1.mono (by simp))
  · have e1 : cntV f u = Lib.onesCount u.toNat := by unfold cntV; rw [if_neg hb]
    have e2 : chkE f = 0 := by unfold badF at hb; exact chk_ok (by omega) (by omega)
    have HC := hid e2
    rw [e1, e2]; clear e1 e2 hb
    go_enter Try.func17, Try.ntmps17
    go_wp2_with fail
    refine (check_any _ _ _).mono ?_
    rintro e w1 ⟨rfl, hb1⟩
    rw [HC.out]
    have c1 : w1.cell? ⟨w.heap.size, 1, none⟩ = some (.int .u8 u) := kc hb1 (by simp)
    go_wp2_with fail
    refine (ones_any u u0 u1 _).mono ?_
    rintro e w2 ⟨rfl, rfl⟩
    go_wp2_with fail
    refine bodyPost_ret (v := .tuple #[.int .i64 (Lib.onesCount u.toNat), .int .i64 0]) (by simp [results, Try.results17, go_sem]) rfl ⟨rfl, ?_⟩
    exact ((Below.refl w.heap.size w).alloc (Nat.le_refl _) _).trans (hb1.mono (by simp))

attribute [local go_sem] Oper.semAt_some   -- for the walks below alone
/-- slab.Objects -/
def objsV (f u : Int) : List Int := if badF f then [] else (pls 8 u).map fun p => wrap64 (8 * f + p)
set_option maxRecDepth 100000 in
set_option maxHeartbeats 4000000 in
theorem objects_ok (f u : Int) (u0 : 0 ≤ u) (u1 : u ≤ 255) (f0 : 0 ≤ f) (f1 : f < 256) (w : World) :
    Calls Try.prog 22 #[.agg #[.int .i64 f, .int .u8 u]] w fun e w' => ∃ v, e = .returned (.tuple #[v, .int .i64 0]) ∧ w'.ownsRow w.heap.size 3 1 v (pls 8 u).length ((pls 8 u).map fun p => Value.int .i64 (wrap64 (8 * f + p))) ∧ Below w.heap.size w w' := by
  obtain ⟨i0, hi, hz0, hz1, hz2⟩ := info_parts info3
  have HI4 := hid (And.intro hi (And.intro hz0 (And.intro hz1 hz2)))
  clear hi hz0 hz1 hz2
  have HC := hid (chk_ok f0 f1)
  refine (callsIn_wide (n := 4)).1 ?_
  refine callsIn_of_wp_marks Try.func22 rfl trivial ?_ rfl
  simp only [Try.ntmps22, List.size_toArray, List.length_cons, List.length_nil, Nat.reduceAdd, Nat.reduceSub, Array.replicate_succ, Array.replicate_zero, List.push_toArray, List.append_toArray, List.nil_append, List.cons_append]
  gi_wp2_with (first
    | (refine ⟨trivial, ?_⟩; gi_at_call 15; refine (callsIn_wide.2 (check_any f u _)).mono ?_; rintro e w2 ⟨rfl, hb2⟩; rw [HC.out]; have hg2 := hid ((hb2.block w.heap.size (by simp)).trans (World.alloc_heap_new w (.cells #[.int .i64 f, .int .u8 u] 29))); have hc2 : (w2.alloc (.cells #[.slice none 0 0] 38)).cell? ⟨w.heap.size, 1, none⟩ = some (.int .u8 u) := kc ((Below.refl _ w2).alloc (Nat.le_refl _) _) (kc hb2 (by simp)))
    | (refine ⟨trivial, ?_⟩; gi_at_call 32; refine (callsIn_wide.2 (places_any _ _)).mono ?_; rintro e w3 ⟨rfl, rfl⟩))
  have hlt2 : w.heap.size < w2.heap.size := (Array.getElem?_eq_some_iff.1 hg2.out).1
  have hB2 : Below w.heap.size w w2 := ((Below.refl w.heap.size w).alloc (Nat.le_refl _) _).trans (hb2.mono (by simp))
  have bO : Boxed ((w2.alloc (.cells #[.slice none 0 0] 38)).alloc (.cells #[.int .u8 u] 5)) w2.heap.size 38 (.slice none 0 0) := (Boxed.new w2 38 _).alloc _
  have bT : Boxed ((w2.alloc (.cells #[.slice none 0 0] 38)).alloc (.cells #[.int .u8 u] 5)) (w2.heap.size + 1) 5 (.int .u8 u) := by
    have := Boxed.new (w2.alloc (.cells #[.slice none 0 0] 38)) 5 (.int .u8 u)
    rwa [World.size_alloc] at this
  have hsz : ((w2.alloc (.cells #[.slice none 0 0] 38)).alloc (.cells #[.int .u8 u] 5)).heap.size = w2.heap.size + 2 := by simp
  have hBw : Below w2.heap.size w2 ((w2.alloc (.cells #[.slice none 0 0] 38)).alloc (.cells #[.int .u8 u] 5)) := ((Below.refl _ w2).alloc (Nat.le_refl _) _).alloc (by simp) _
  have hab : ∀ (k : List Int → Nat) (g : List Int → List Value), AbidesAt (w2.heap.size + 1) (fun (pre : List Int) W => ∃ v, Boxed W w2.heap.size 38 v ∧ W.ownsRow (w2.heap.size + 2) 3 1 v (k pre) (g pre) ∧ True) := fun k g s A B hs ht => by
    obtain ⟨v, h1, h2, -⟩ := hs
    exact ⟨v, h1.kept ht (by intro e; have := Option.some.inj e; omega), h2.kept ht (.inr (row_free h2 (by omega)).symm), trivial⟩
  refine range_at rfl (by omega) (gf := 33) (lb := #[.pointer (some ⟨w2.heap.size + 1, 0, none⟩)]) rfl trivial (enters_of Try.func33 (by kernel_rfl) rfl)
    (w2.heap.size + 1) (by omega) (encs := fun x : Int => #[.int .i64 x]) (S := fun xs => ∃ k, xs = placesTo u k ∧ itB u k = 0 ∧ ∀ j, j < k → itB u j ≠ 0) (Pz := fun pre _ => pre.length < 8) (Sp := fun _ => True) (fun _ => rfl)
    (fun pre W => (∃ v, Boxed W w2.heap.size 38 v ∧ W.ownsRow (w2.heap.size + 2) 3 1 v pre.length (pre.map fun p => Value.int .i64 (wrap64 (8 * f + p))) ∧ True) ∧ Below w2.heap.size w2 W ∧ w2.heap.size + 2 ≤ W.heap.size)
    (fun c pre W => False)
    (OwnFrom.and (Own.from (holdsRow_own (w2.heap.size + 2) w2.heap.size 38 3 1 (fun pre : List Int => pre.length) (fun pre => pre.map fun p => Value.int .i64 (wrap64 (8 * f + p))) (fun _ _ => True)) _) (OwnFrom.and (ownFrom_below (Nat.le_refl _) (by omega)) (fun _ _ _ _ hs hg _ => Nat.le_trans hs hg.size)))
    (fun c _ _ _ _ hs _ _ => hs)
    (fun s A B hs ht => ⟨hab _ _ s A B hs.1 ht, steps_belowN ht (by omega) hs.2.1.size hs.2.1, Nat.le_trans hs.2.2 ht.size⟩)
    (fun c s A B hs ht => hs)
    (fun l J Jx W hW hJ hJx hJI hY h0 => places1_in l (w2.heap.size + 1) u u0 u1 J Jx hJ hY W ((hW.block _ (by omega)).trans bT) h0)
    ⟨⟨_, bO, World.ownsRow_nil _ _ _ _, trivial⟩, hBw, by omega⟩
    (fun x => { tmps := #[.agg #[.int .i64 f, .int .u8 u], .pointer (some ⟨w.heap.size, 0, none⟩), .slice none 0 0, .int .i64 0, .int .i64 0, .pointer (some ⟨w2.heap.size, 0, none⟩), .int .i64 x, .agg #[.int .i64 f, .int .u8 u], .int .i64 0, .int .i64 0, .bool false, undef, .pointer (some ⟨w.heap.size, 1, none⟩), .int .u8 u, .func (.func 33) #[] #[.pointer (some ⟨w2.heap.size + 1, 0, none⟩)], .int .i64 x, undef, undef, undef, undef, undef, undef, undef, undef, undef], defers := [] }) ?assign ?body ?done ?stop
  case assign =>
    intro l x W K hK
    gi_wp2
    exact hK
  case body =>
    rintro l pre x W hlen ⟨⟨v, hv, hrow, -⟩, hB, hsW⟩
    have hc := hv.cell
    have hfW : W.cell? ⟨w.heap.size, 0, none⟩ = some (.int .i64 f) := by
      rw [hB.cell (show w.heap.size < w2.heap.size from hlt2)]
      exact kc hb2 (by simp)
    have HB := hid hB
    clear hB
    gi_wp2_with (gi_at_builtin; refine wpListIn_append_own _ rfl _ _ 38 rfl (w2.heap.size + 2) 3 i0 (.int .i64 0) 1 8 Try.underlying38 HI4.out.1 HI4.out.2.1 HI4.out.2.2.1 HI4.out.2.2.2 rfl (by decide) _ _ _ rfl (hrow.alloc _) ⟨W.heap.size, 0, none⟩ 1 1 [.int .i64 (wrap64 (8 * f + x))] rfl rfl (cell_one_new _ _ _) (by simp [Value.oneCell']) (by unfold maxLen; omega) (by omega) (by simp; omega) ?_; intro v' w1 hown' hgrow _; obtain ⟨g', cap', rfl⟩ := ownsRow_succ hown'; obtain ⟨hv1, hv2, hr2, hk2, hb2', hj2⟩ := appendedF (n₀ := w2.heap.size) hv hrow hsW (by omega) (Nat.le_refl _) hown' hgrow; have hc1 := hv1.cell; have hf1 := hv1.frozen)
    exact ⟨hk2.from _, hj2 _ (by omega) (by omega), ⟨_, hv2, by simpa using hr2⟩, HB.out.trans hb2', Nat.le_trans hsW hb2'.size⟩
  case done =>
    rintro D xs W hD ⟨k, rfl, hz, hno⟩ ⟨⟨v, hv, hrow, -⟩, hB, hsW⟩ hK
    have hc := hv.cell
    rw [placesTo_len] at hrow
    gi_wp2
    have hk8 : k ≤ 8 := by
      by_cases h : k ≤ 8
      · exact h
      · exact absurd (it_end u u0 u1) (hno 8 (by omega))
    have hpl : pls 8 u = placesTo u k := pls_at 8 k u hk8 hno hz
    rw [hpl, placesTo_len]
    refine ⟨by simp, .inl ⟨_, _, rfl, run_takeDeferred hK, ?_⟩⟩
    exact ⟨_, results_tmp2 rfl _ _ _, v, rfl, row_base (ownsRow_putObj hrow _ hK rfl) (by omega), (hB2.trans (hB.mono (by omega))).trans (belowK_b (w := w) (Nat.le_refl _) W D _ _ (by simp at hD; omega) hK rfl rfl)⟩
  case stop =>
    rintro D c pre W hD _ hF hK
    exact hF.elim
theorem objects_err (f u : Int) (hb : badF f) (w : World) :
    Calls Try.prog 22 #[.agg #[.int .i64 f, .int .u8 u]] w fun e w' => e = .returned (.tuple #[.slice none 0 0, .int .i64 2]) ∧ Below w.heap.size w w' := by
  have HC := hid (chk_no hb)
  clear hb
  refine (callsIn_wide (n := 4)).1 ?_
  refine callsIn_of_wp_marks Try.func22 rfl trivial ?_ rfl
  simp only [Try.ntmps22, List.size_toArray, List.length_cons, List.length_nil, Nat.reduceAdd, Nat.reduceSub, Array.replicate_succ, Array.replicate_zero, List.push_toArray, List.append_toArray, List.nil_append, List.cons_append]
  gi_wp2_with (first
    | (refine ⟨trivial, ?_⟩; gi_at_call 15; refine (callsIn_wide.2 (check_any f u _)).mono ?_; rintro e w2 ⟨rfl, hb2⟩; rw [HC.out]))
  exact ⟨_, results_tmp2 rfl _ _ _, rfl, ((Below.refl w.heap.size w).alloc (Nat.le_refl _) _).trans (hb2.mono (by simp))⟩

end Go.Proofs.Ytbhbddpebhccgaa
