/- The contract of pool.drained: the channel's values, in order. Conditions: the channel's block, fewer than 1000 values. -/
import Derived.Test.YtompoghbdpfdjaaDoorM1
import Derived.Test.YtompoghbdpfdjaaDoorWMore

import Derived.Lib.Hide
namespace Go.Proofs.YtompoghbdpfdjaaDoor
open Go.RowKit Go.Conc Go.Proofs.YtompoghbdpfdjaaDoorW.PrintWords Go.Proofs.YtompoghbdpfdjaaDoorW.PrintLast Go.Proofs.YtompoghbdpfdjaaDoorW.PrintMore
set_option linter.unusedVariables false
set_option linter.unusedSimpArgs false

theorem info3 : (Tryd.prog.info? 3).map (fun i => (i.zero, i.size, i.bytes)) = some (some (.int .i64 0), 1, 8) := by kernel_rfl
/-- the values of a list -/
def vals (l : List Int) : Array Value := (l.map (Value.int .i64)).toArray
theorem vals_size (l : List Int) : (vals l).size = l.length := by simp [vals]
theorem vals_getD (x : Int) (l : List Int) : (vals (x :: l)).getD 0 undef = .int .i64 x := by simp [vals]
theorem vals_tail (x : Int) (l : List Int) : (vals (x :: l)).extract 1 (vals (x :: l)).size = vals l := by simp [vals]; rw [List.take_of_length_le (by simp)]
theorem vals_push (x : Int) (l : List Int) : (vals l).push (.int .i64 x) = vals (l ++ [x]) := by simp [vals]
/-- what the loop of drained keeps -/
def DrI (c cap B : Nat) (l : List Int) (w : World) (a : Act) (w' : World) : Prop :=
  ∃ (dn rs : List Int) (u x1 x4 x5 x6 x7 x8 x9 x10 x11 x12 x13 x14 : Value) (s r : Nat), a = ⟨#[.chan (some c), x1, .slice none 0 0, u, x4, x5, x6, x7, x8, x9, x10, x11, x12, x13, x14], []⟩ ∧ dn ++ rs = l ∧
    Kd.R (Kd.int .i64) 3 w' B (fun _ => True) u dn ∧ w'.heap[c]? = some (.chan cap (vals rs) false s r false) ∧ Below c w w' ∧ B ≤ w'.heap.size
/-- how much the channel holds -/
def ChM (c : Nat) (_ : Act) (w : World) : Nat := match w.heap[c]? with | some (.chan _ buf _ _ _ _) => buf.size | _ => 0
theorem chM {c cap s r : Nat} {buf : Array Value} {cl tm : Bool} {a : Act} {w : World} (h : w.heap[c]? = some (.chan cap buf cl s r tm)) : ChM c a w = buf.size := by unfold ChM; rw [h]
theorem chan_size {w : World} {c : Nat} {o : Obj} (h : w.heap[c]? = some o) : c < w.heap.size := (Array.getElem?_eq_some_iff.1 h).1
set_option maxHeartbeats 1000000 in
set_option maxRecDepth 100000 in
theorem drained_any (c cap : Nat) (l : List Int) (hl : l.length ≤ 1000) (s r : Nat) (w : World) (hc : w.heap[c]? = some (.chan cap (vals l) false s r false)) :
    Calls Tryd.prog 33 #[.chan (some c)] w fun e w' => ∃ v, e = .returned v ∧ Kd.R (Kd.int .i64) 3 w' w.heap.size (fun _ => True) v l ∧ Below c w w' := by
  have hlt : c < w.heap.size := chan_size hc
  refine calls_of_wpK Tryd.func33 rfl (fun b hk => ?_)
  simp only [Tryd.ntmps33, List.size_toArray, List.length_cons, List.length_nil, Nat.reduceAdd, Nat.reduceSub, Array.replicate_succ, Array.replicate_zero, List.push_toArray, List.append_toArray, List.nil_append, List.cons_append]
  refine WpK.seq_wp (fun K hK => ?_)
  go_wp2
  refine WpK.seq_wp (fun K hK => ?_)
  go_wp2
  refine WpK.block (WpK.loop (DrI c cap w.heap.size l w) (ChM c) ?_ ?_)
  · exact ⟨[], l, .slice none 0 0, _, _, _, _, _, _, _, _, _, _, _, _, s, r, rfl, rfl, Kd.R_nil _ _ _ _ _, hc, Below.refl _ _, Nat.le_refl _⟩
  · rintro a w' ⟨dn, rs, u, x1, x4, x5, x6, x7, x8, x9, x10, x11, x12, x13, x14, s', r', rfl, hl', HO, hc', HB, hz⟩
    refine WpK.block ?_
    refine WpK.seq_wp (fun K hK => ?_)
    go_wp2
    refine WpK.seq (WpK.region ?_)
    show OpsK _ _ _ _ [0, 1, 2] _ _
    cases rs with
    | nil =>
      refine OpsK.sel_none (c := c) (z := .int .i64 0) (cap := cap) (s := s') (r := r') hk rfl rfl (by simp [go_sem, execOp, rcase, Act.eval]) hc' ?_
      refine OpsK.op (v := .int .i64 (-1)) (w' := w') rfl rfl (by simp [go_sem, execOp, Act.eval, Act.put, goInt]) ?_
      refine OpsK.op (v := .bool false) (w' := w') rfl rfl (by simp [go_sem, execOp, Act.eval, Act.put]) ?_
      refine OpsK.nil ?_
      obtain rfl : dn = l := by simpa using hl'
      refine WpK.block (WpK.of_wp ?_)
      clear hc'
      go_wp2
      go_ret
      exact ⟨u, rfl, HO, HB⟩
    | cons x rs =>
      have hx : 0 < (vals (x :: rs)).size := by simp [vals]
      have hm : (ChM c ⟨#[.chan (some c), x1, .slice none 0 0, u, x4, x5, x6, x7, x8, x9, x10, x11, x12, x13, x14], []⟩ w') = rs.length + 1 := by rw [chM hc', vals_size]; rfl
      have Hm := Lib.hid hm
      clear hm
      refine OpsK.sel_buf (c := c) (z := .int .i64 0) (cap := cap) (s := s') (r := r') hk rfl rfl (by simp [go_sem, execOp, rcase, Act.eval]) hc' hx ?_
      rw [vals_getD, vals_tail]
      refine OpsK.op (v := .int .i64 0) (w' := w'.setChan c cap (vals rs) false s' (r' + 1) false) rfl rfl (by simp [go_sem, execOp, Act.eval, Act.put, goInt]) ?_
      refine OpsK.op (v := .bool true) (w' := w'.setChan c cap (vals rs) false s' (r' + 1) false) rfl rfl (by simp [go_sem, execOp, Act.eval, Act.put]) ?_
      refine OpsK.nil ?_
      have hc2 := heap_setChan w' c cap (vals rs) false s' (r' + 1) false (chan_size hc')
      have HB2 := below_setChan HB (Nat.le_refl c) cap (vals rs) false s' (r' + 1) false
      have hz2 : w.heap.size ≤ (w'.setChan c cap (vals rs) false s' (r' + 1) false).heap.size := by rw [size_setChan]; exact hz
      have HO2 : Kd.R (Kd.int .i64) 3 (w'.setChan c cap (vals rs) false s' (r' + 1) false) w.heap.size (fun _ => True) u dn :=
        Kd.R_mono (Kd.R_step (Kd.R_bound HO) (fun k hk _ => by have := hk.2.1; simp only [World.setChan]; rw [Array.getElem?_setIfInBounds_ne (by omega)])) (fun _ _ => trivial)
      have hlen : dn.length < 1000 := by have := congrArg List.length hl'; simp at this; omega
      clear hc' HB HO hz
      generalize w'.setChan c cap (vals rs) false s' (r' + 1) false = W at *
      obtain ⟨I, hI⟩ : ∃ I, I = DrI c cap w.heap.size l w := ⟨_, rfl⟩
      rw [← hI]
      have HI := Lib.hid hI
      clear hI
      refine WpK.block (WpK.of_wp ?_)
      have HC := Lib.hid hc2
      have HBW := Lib.hid HB2
      clear hc2 HB2
      go_wp2_with ((with_reducible refine gate_builtin (b := .append) (xs := #[.tmp 11, .tmp 13]) rfl ?_); at_builtin; refine Kd.R_append (Kd.int .i64) (w0 := W) w.heap.size rfl (.tmp 11) (.tmp 13) 22 3 (.int .i64 0) 8 rfl Tryd.underlying22 info3 rfl (by decide) (by omega) u dn x [.int .i64 x] (fun _ => True) (fun _ => False) rfl rfl ?aP (fun _ hk => hk.elim) ?aF ?aO ?aB ?aS ?aL ?_; (case aP => exact rfl); (case aB => exact Below.refl _ _); (case aF => exact (fun _ _ => trivial)); (case aO => exact HO2); (case aS => exact hz2); (case aL => omega); intro v1 w1 ho hb hg hat)
      rw [HI.out, Hm.out]
      have hcw : w1.heap[c]? = some (.chan cap (vals rs) false s' (r' + 1) false) := (hb.block c hlt).trans HC.out
      refine ⟨⟨dn ++ [x], rs, v1, _, _, _, _, _, _, _, _, _, _, _, _, s', r' + 1, rfl, by simpa using hl', ho, hcw, HBW.out.trans (hb.mono (Nat.le_of_lt hlt)), Nat.le_trans hz2 hb.size⟩, ?_⟩
      rw [chM hcw, vals_size]
      omega
end Go.Proofs.YtompoghbdpfdjaaDoor
