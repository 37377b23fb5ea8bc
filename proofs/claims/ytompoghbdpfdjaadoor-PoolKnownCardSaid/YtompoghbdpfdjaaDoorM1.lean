/- Walks of functions that send and receive in one goroutine: the kit's rules for code, at one frame, and a law for a region that communicates. No condition. -/
import Derived.Test.YtompoghbdpfdjaaDoorProg
import Derived.Conc.LoneSelect
import Derived.WalkKit
import Derived.WalkLawsBesides
import Derived.WalkSpells
import Derived.KernelRfl
import Derived.Shelf.Spec.TrailingZeros
namespace Go.Proofs.YtompoghbdpfdjaaDoor
open Go.RowKit Go.Conc
set_option linter.unusedVariables false

/-- the code at the frame b comes to a way out that Q says -/
def WpK (P : Program) (b : Frame) (c : Code) (Q : Exit → Act → World → Prop) (a : Act) (w : World) : Prop :=
  ∀ (k : List Item) (cs : List Frame), ∃ e a' w', Q e a' w' ∧ Arrives P (lone (b.at a (.code c :: k)) cs w) b k cs e a' w'
/-- the rest of a region at the frame b -/
def OpsK (P : Program) (b : Frame) (ops : Array Oper) (Q : Exit → Act → World → Prop) (l : List Nat) (a : Act) (w : World) : Prop :=
  ∀ (k : List Item) (cs : List Frame), ∃ e a' w', Q e a' w' ∧ Arrives P (lone (b.at a (.inRegion ops l :: k)) cs w) b k cs e a' w'

section
variable {P : Program} {b : Frame} {Q : Exit → Act → World → Prop} {a : Act} {w : World}
theorem WpK.of_wp {c : Code} (h : c.wp P Q a w) : WpK P b c Q a w := fun k cs => h b k cs
theorem WpK.seq {x y : Code} (h : WpK P b x (Exit.then (WpK P b y Q) Q) a w) : WpK P b (.seq x y) Q a w := by
  intro k cs
  obtain ⟨e, a₁, w₁, hq, harr⟩ := h (.code y :: k) cs
  have go : e ≠ .normal → Q e a₁ w₁ → ∃ e a' w', Q e a' w' ∧ Arrives P (lone (b.at a (.code (.seq x y) :: k)) cs w) b k cs e a' w' := fun hn hQ =>
    ⟨e, a₁, w₁, hQ, .of_steps (.one step_seq) (.pass (x := .code y) rfl (fun _ _ => .inl hn) harr)⟩
  cases e with
  | normal => obtain ⟨e₂, a₂, w₂, q₂, r₂⟩ := hq k cs; exact ⟨e₂, a₂, w₂, q₂, .of_steps (.head step_seq harr) r₂⟩
  | _ => exact go (by simp) hq
theorem WpK.seq_wp {x y : Code} (h : ∀ K : Act → World → Prop, (∀ a w, WpK P b y Q a w → K a w) → x.wp P (Exit.then K Q) a w) : WpK P b (.seq x y) Q a w := .seq (.of_wp (h _ fun _ _ h => h))
theorem WpK.cond {c : Operand} {x y : Code} {t : Bool} (hc : a.eval c = .bool t) (h : WpK P b (if t then x else y) Q a w) : WpK P b (.cond c x y) Q a w :=
  fun k cs => let ⟨e, a', w', q, r⟩ := h k cs; ⟨e, a', w', q, .of_steps (.one (step_cond hc)) r⟩
theorem WpK.block {id : Nat} {c : Code} (h : WpK P b c (Exit.inBlock id Q) a w) : WpK P b (.block id c) Q a w := by
  intro k cs
  obtain ⟨e, a₁, w₁, hq, harr⟩ := h (.inBlock id :: k) cs
  cases e with
  | normal => exact ⟨.normal, a₁, w₁, hq, .head step_block (Steps.trans harr (.one step_inBlock))⟩
  | exit i =>
    by_cases hi : i = id
    · simp only [Exit.inBlock, hi, if_true] at hq
      exact ⟨.normal, a₁, w₁, hq, .head step_block (harr k (by simp [exitTo, hi]))⟩
    · simp only [Exit.inBlock, hi, if_false] at hq
      exact ⟨.exit i, a₁, w₁, hq, fun k' hk => .head step_block (harr k' (by simp [exitTo, hk]; exact fun h => absurd h.symm hi))⟩
  | goto l => exact ⟨_, a₁, w₁, hq, fun k' hk => .head step_block (harr k' (by simp [gotoIn, hk]))⟩
  | ret => exact ⟨_, a₁, w₁, hq, .of_steps (.one step_block) harr⟩
  | panic ch => exact ⟨_, a₁, w₁, hq, .of_steps (.one step_block) harr⟩
  | outgrown => exact ⟨_, a₁, w₁, hq, .of_steps (b := b) (k := k) (cs := cs) (e := .outgrown) (.one step_block) harr⟩
theorem WpK.loop {c : Code} (I : Act → World → Prop) (μ : Act → World → Nat) (h₀ : I a w)
    (round : ∀ a w, I a w → WpK P b c (Exit.then (fun a' w' => I a' w' ∧ μ a' w' < μ a w) Q) a w) : WpK P b (.loop c) Q a w := by
  intro k cs
  have key : ∀ n a w, μ a w < n → I a w → ∃ e a' w', Q e a' w' ∧ Arrives P (lone (b.at a (.code c :: .inLoop c :: k)) cs w) b k cs e a' w' := by
    intro n
    induction n with
    | zero => intro a w h; omega
    | succ n ih =>
      intro a w hn hI
      obtain ⟨e, a₁, w₁, hq, harr⟩ := round a w hI (.inLoop c :: k) cs
      have go : e ≠ .normal → Q e a₁ w₁ → ∃ e a' w', Q e a' w' ∧ Arrives P (lone (b.at a (.code c :: .inLoop c :: k)) cs w) b k cs e a' w' := fun hn hQ =>
        ⟨e, a₁, w₁, hQ, .pass (x := .inLoop c) rfl (fun _ _ => .inl hn) harr⟩
      cases e with
      | normal =>
        have h1 : I a₁ w₁ := hq.1
        have h2 : μ a₁ w₁ < μ a w := hq.2
        obtain ⟨e₂, a₂, w₂, q₂, r₂⟩ := ih a₁ w₁ (by omega) h1
        exact ⟨e₂, a₂, w₂, q₂, .of_steps (Steps.trans harr (.one step_inLoop)) r₂⟩
      | _ => exact go (by simp) hq
  obtain ⟨e, a', w', q, r⟩ := key _ a w (Nat.lt_succ_self _) h₀
  exact ⟨e, a', w', q, .of_steps (.one step_loop) r⟩
theorem WpK.mono {c : Code} {Q' : Exit → Act → World → Prop} (h : WpK P b c Q a w) (hq : ∀ e a w, Q e a w → Q' e a w) : WpK P b c Q' a w :=
  fun k cs => let ⟨e, a', w', q, r⟩ := h k cs; ⟨e, a', w', hq _ _ _ q, r⟩

variable {ops : Array Oper} {i : Nat} {rest : List Nat} {o : Oper}
theorem WpK.region {id : Nat} (h : OpsK P b ops Q (List.range ops.size) a w) : WpK P b (.region id ops false) Q a w :=
  fun k cs => let ⟨e, a', w', q, r⟩ := h k cs; ⟨e, a', w', q, .of_steps (.one step_region) r⟩
theorem OpsK.nil (h : Q .normal a w) : OpsK P b ops Q [] a w := fun k cs => ⟨.normal, a, w, h, .one step_region_end⟩
/-- one step, that lays v -/
theorem OpsK.step {w' : World} {v : Value} (hs : ∀ k cs, step P (lone (b.at a (.inRegion ops (i :: rest) :: k)) cs w) = .next (lone ((b.at a (.inRegion ops (i :: rest) :: k)).finish v) cs w'))
    (h : OpsK P b ops Q rest (a.put ((ops[i]?).bind (·.dst)) v) w') : OpsK P b ops Q (i :: rest) a w := fun k cs => by
  obtain ⟨e, a', w'', q, r⟩ := h k cs
  refine ⟨e, a', w'', q, .of_steps (.one ?_) r⟩
  rw [hs, Frame.finish_at]
theorem OpsK.skip (hw : ((ops[i]?).map (Region.wanted · (yielded ops a.tmps))).getD false = false) (h : OpsK P b ops Q rest (a.put ((ops[i]?).bind (·.dst)) undef) w) : OpsK P b ops Q (i :: rest) a w := fun k cs => by
  obtain ⟨e, a', w'', q, r⟩ := h k cs
  exact ⟨e, a', w'', q, .of_steps (.one (step_op_skip hw)) r⟩
/-- an operation that yields a value -/
theorem OpsK.op {w' : World} {v : Value} (ho : ops[i]? = some o) (hw : Region.wanted o (yielded ops a.tmps) = true) (hr : (execOp a.eval o).run P w = .ok (.value v) w')
    (h : OpsK P b ops Q rest (a.put o.dst v) w') : OpsK P b ops Q (i :: rest) a w := by
  refine OpsK.step (v := v) (w' := w') (fun k cs => step_lone_go ?_) (by rw [ho]; exact h)
  rw [stepG_op ho hw]; simp [stepG.apply, hr]
theorem OpsK.of_ops {l : List Nat} (h : wpOps P ops Q l a w) : OpsK P b ops Q l a w := fun k cs => wp_ops l a w h b k cs
variable {c cap s r : Nat} {buf : Array Value} {z z' v : Value}
theorem OpsK.send (hk : b.kind = .normal) (ho : ops[i]? = some o) (hw : Region.wanted o (yielded ops a.tmps) = true) (hr : (execOp a.eval o).run P w = .ok (.comm #[scase c v z'] true .send) w)
    (hc : w.heap[c]? = some (.chan cap buf false s r false)) (hroom : buf.size < cap) (h : OpsK P b ops Q rest (a.put o.dst undef) (w.setChan c cap (buf.push v) false (s + 1) r false)) : OpsK P b ops Q (i :: rest) a w := by
  refine OpsK.step (v := undef) (fun k cs => ?_) (by rw [ho]; exact h)
  exact step_lone_send_room (stepG_comm (cases := #[scase c v z']) (blocking := true) (shape := .send) (w' := w) ho hw (by rw [hk]; decide) hr) hc hroom
theorem OpsK.sel_buf (hk : b.kind = .normal) (ho : ops[i]? = some o) (hw : Region.wanted o (yielded ops a.tmps) = true) (hr : (execOp a.eval o).run P w = .ok (.comm #[rcase c z] false .select) w)
    (hc : w.heap[c]? = some (.chan cap buf false s r false)) (hsome : 0 < buf.size) (h : OpsK P b ops Q rest (a.put o.dst (.tuple #[goInt 0, .bool true, buf.getD 0 undef])) (w.setChan c cap (buf.extract 1 buf.size) false s (r + 1) false)) : OpsK P b ops Q (i :: rest) a w := by
  refine OpsK.step (fun k cs => ?_) (by rw [ho]; exact h)
  exact step_lone_select_recv_buf (stepG_comm (cases := #[rcase c z]) (blocking := false) (shape := .select) (w' := w) ho hw (by rw [hk]; decide) hr) hc hsome
theorem OpsK.sel_none (hk : b.kind = .normal) (ho : ops[i]? = some o) (hw : Region.wanted o (yielded ops a.tmps) = true) (hr : (execOp a.eval o).run P w = .ok (.comm #[rcase c z] false .select) w)
    (hc : w.heap[c]? = some (.chan cap #[] false s r false)) (h : OpsK P b ops Q rest (a.put o.dst (.tuple #[goInt (-1), .bool false, z])) w) : OpsK P b ops Q (i :: rest) a w := by
  refine OpsK.step (fun k cs => ?_) (by rw [ho]; exact h)
  exact step_lone_select_default (stepG_comm (cases := #[rcase c z]) (blocking := false) (shape := .select) (w' := w) ho hw (by rw [hk]; decide) hr) hc
end

theorem calls_of_wpK {P : Program} {f : FuncId} {fn : Func} {c : Code} {args : Array Value} {w : World} {R : Ending → World → Prop}
    (hf : P.funcs[f]? = some fn) (hb : fn.body = some c)
    (h : ∀ b : Frame, b.kind = .normal → WpK P b c (bodyPost P fn R) { tmps := args ++ Array.replicate (fn.ntmps - args.size) undef, defers := [] } w) : Calls P f args w R := by
  intro cs
  obtain ⟨b, hbk, rfl⟩ : ∃ b : Frame, b.kind = .normal ∧ b.fn = f := ⟨{ (default : Frame) with fn := f, kind := .normal }, rfl, rfl⟩
  have henter : Frame.enter P b.fn args .normal = b.at { tmps := args ++ Array.replicate (fn.ntmps - args.size) undef, defers := [] } [.code c] := by
    simp [Frame.enter, Frame.at, hf, hb, hbk]
  rw [henter]
  obtain ⟨e, a', w', hq, harr⟩ := h b hbk [] cs
  cases e with
  | normal =>
    obtain ⟨hd, v, hr, hR⟩ := hq
    exact ⟨.returned v, w', _, hR, Steps.trans harr (.one step_end), rfl, rfl, hd, hbk, fn, hf, hr⟩
  | ret =>
    obtain ⟨hd, v, hr, hR⟩ := hq
    obtain ⟨todo, hs⟩ := harr
    exact ⟨.returned v, w', _, hR, hs, rfl, rfl, hd, hbk, fn, hf, hr⟩
  | panic chain =>
    obtain ⟨hd, hR⟩ := hq
    obtain ⟨todo, hs⟩ := harr
    exact ⟨.panicked chain, w', _, hR, hs, rfl, rfl, hd, fn, hf⟩
  | exit id => exact hq.elim
  | goto l => exact hq.elim
  | outgrown => exact ⟨.outgrown, w', b, hq, harr.resolve_left (by simp [hbk]), rfl, trivial⟩
/-- the table of the trailing zeros, as it is laid -/
def GC (w : World) : Prop := TabAt 0 Lib.deBruijn32tab w
theorem gcB {w w' : World} (h : GC w) (hb : Below w.heap.size w w') : GC w' := fun j hj => (hb.cell (p := ⟨0, j, none⟩) (World.block_lt_of_cell? w _ (h j hj))).trans (h j hj)
set_option maxHeartbeats 1000000 in
theorem tz_core (x k idx : Nat) (w : World) (hx0 : ((x : Int) == 0) = false)
    (key : bits BinOp.and IntKind.u32 (x : Int) (-(x : Int) % 4294967296) * 125613361 % 4294967296 / 134217728 = (idx : Int))
    (hi : idx < 32) (hk : k < 32) (hcell : w.cell? ⟨0, idx, none⟩ = some (.int .u8 k)) :
    Calls Tryd.prog 40 #[.int .u32 x] w fun e w' => e = .returned (.int .i64 k) ∧ w = w' := by
  go_enter Tryd.func40, Tryd.ntmps40
  go_wp2_with (simp only [key])
  go_ret
  exact ⟨rfl, rfl⟩
/-- TrailingZeros32 at a number that is not zero -/
theorem tz_any (x : Nat) (hx0 : x ≠ 0) (hx : x < 4294967296) (w : World) (hT : GC w) :
    Calls Tryd.prog 40 #[.int .u32 x] w fun e w' => e = .returned (.int .i64 (Lib.ctz 32 x)) ∧ w = w' := by
  obtain ⟨hlow, hk⟩ := Lib.lowest_bit 32 x hx0 hx
  obtain ⟨hi, htab⟩ := Lib.deBruijn32_at _ hk
  have hcell := hT _ hi
  rw [htab] at hcell
  exact tz_core x _ _ w (by simp; omega) (tz32_key x _ hx hx0 hlow) hi hk hcell
end Go.Proofs.YtompoghbdpfdjaaDoor
