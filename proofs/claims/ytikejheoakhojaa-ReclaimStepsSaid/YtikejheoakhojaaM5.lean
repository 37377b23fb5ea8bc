/- The iterator of plans (function 54). Conditions: a small tally; what the contract of tally.after says. -/
import Derived.Test.YtikejheoakhojaaM4
import Derived.Laws.Rows
import Derived.Laws.Tables
namespace Go.Proofs.Ytikejheoakhojaa
open Go.RowKit Go.Shelf
set_option linter.unusedVariables false
set_option linter.unusedSimpArgs false

/-- a loop whose rounds are numbered, with a bound on the number -/
theorem rounds_ind {F : Fence} {n : Nat} {P : Program} {c : Code} {Q : Exit → Act → World → Prop} (N : Nat) (R : Nat → Act → World → Prop) (hlt : ∀ k a w, R k a w → k < N)
    (hstep : ∀ k a w, R k a w → c.wpIn F n P (Exit.then (R (k + 1)) Q) a w) (a : Act) (w : World) (h : R 0 a w) : (Code.loop c).wpIn F n P Q a w := by
  have key : ∀ m k a w, k + m = N → R k a w → Code.roundsIn F n P c Q m a w := by
    intro m
    induction m with
    | zero => intro k a w hk hr; have := hlt k a w hr; omega
    | succ m ih =>
      intro k a w hk hr
      rw [roundsIn_succ]
      refine wpIn_mono (hstep k a w hr) ?_
      intro e a' w' hq
      cases e with
      | normal => exact ih (k + 1) a' w' (by omega) hq
      | exit id => exact hq
      | goto l => exact hq
      | ret => exact hq
      | panic ch => exact hq
      | outgrown => exact hq
  exact wpIn_loop_rounds N (key N 0 a w (by omega) h)

theorem steps_below {Bt : Nat} {A B : World} (h : Below A.heap.size A B) : StepsAt Bt A B := ⟨h.os, h.tape, h.output, h.size, fun k hk _ => h.block k hk⟩
theorem steps_row (Bt : Nat) (A : World) (cs : Array Value) : StepsAt Bt A (A.setRow Bt cs) :=
  ⟨rfl, rfl, rfl, by simp, fun k _ hk => setRow_other A Bt k cs (fun e => hk (by rw [e]))⟩
/-- a struct's row loaded, stored, inside a fence -/
theorem wpListIn_load_row {F : Fence} {n : Nat} {P : Program} (w : World) {ops : Array Oper} {rest : List Oper} {o : Oper} {a : Act} {Q : Exit → Act → World → Prop}
    (hgd : o.guard = none) (ty : TypeId) (x : Operand) (hop : o.op = .load ty x) (g : Nat) (hx : a.eval x = .pointer (some ⟨g, 0, none⟩)) (v : Value) (hrun : (loadVar ty ⟨g, 0, none⟩).run P w = .ok v w)
    (h : wpListIn F n P ops Q rest (a.put o.dst v) w) : wpListIn F n P ops Q (o :: rest) a w := by
  refine wpListIn_plain hgd fun K hK' => ?_
  unfold Oper.wpIn
  refine ⟨?_, ?_⟩
  · simp [Oper.about, hop]
  · rw [Oper.semAt_plain F _ _ (by rw [hop]; intro c hc'; cases hc')]
    unfold execOp
    simp only [hop, hx, Instr.loadAt, Instr.sureAddr, Sem.run_bind, Sem.run_pure, Result.andThen_ok, hrun]
    exact hK' _ _ h
theorem wpListIn_store_row {F : Fence} {n : Nat} {P : Program} (w : World) {ops : Array Oper} {rest : List Oper} {o : Oper} {a : Act} {Q : Exit → Act → World → Prop}
    (hgd : o.guard = none) (ty : TypeId) (x y : Operand) (hop : o.op = .store ty x y) (g : Nat) (hx : a.eval x = .pointer (some ⟨g, 0, none⟩)) (v : Value) (hy : a.eval y = v) (w' : World) (hrun : (storeVar ty ⟨g, 0, none⟩ v).run P w = .ok () w')
    (h : wpListIn F n P ops Q rest (a.put o.dst undef) w') : wpListIn F n P ops Q (o :: rest) a w := by
  refine wpListIn_plain hgd fun K hK' => ?_
  unfold Oper.wpIn
  refine ⟨?_, ?_⟩
  · simp [Oper.about, hop]
  · rw [Oper.semAt_plain F _ _ (by rw [hop]; intro c hc'; cases hc')]
    unfold execOp
    simp only [hop, hx, hy, Instr.storeAt, Instr.sureAddr, Sem.run_bind, Sem.run_pure, Result.andThen_ok, hrun]
    exact hK' _ _ h
theorem info46 : (Try.prog.info? 46).map (·.size) = some 15 := by kernel_rfl

set_option maxRecDepth 100000 in
set_option maxHeartbeats 4000000 in
theorem plan1_in (l Bt : Nat) (t : Ty) (hok : t.Ok) (HA : AfterC) (N : Nat) (J Jx : List Int → World → Prop) (hJ : AbidesAt Bt J) (hN : ∀ k W, J (t.steps k) W → k < N)
    (hY : ∀ pre x W1, J pre W1 → YieldAt Fence.wide 2 Try.prog l #[.int .i64 x] W1 fun e W' =>
        (e = .returned (.bool true) ∧ J (pre ++ [x]) W' ∧ W'.heap[Bt]? = W1.heap[Bt]?) ∨ (e = .returned (.bool false) ∧ Jx (pre ++ [x]) W'))
    (W : World) (hT : W.heap[Bt]? = some (.cells t.c 46 (0, 0))) (h0 : J [] W) :
    CallsIn Fence.wide 3 Try.prog 54 #[.func (.yield l) #[] #[], .pointer (some ⟨Bt, 0, none⟩)] W fun e W' => (∃ v, e = .returned v) ∧
      ((∃ xs, (∃ k, xs = t.steps (k + 1) ∧ (t.at k).dir = 6 ∧ ∀ j, j < k → (t.at j).dir ≠ 6) ∧ J xs W') ∨ (∃ pre, (∃ k, pre = t.steps (k + 1) ∧ ∀ j, j < k → (t.at j).dir ≠ 6) ∧ Jx pre W')) := by
  refine callsIn_of_wp Try.func54 rfl trivial ?_ rfl
  simp only [Try.ntmps54, List.size_toArray, List.length_cons, List.length_nil, Nat.reduceAdd, Nat.reduceSub, Array.replicate_succ, Array.replicate_zero, List.push_toArray, List.append_toArray, List.nil_append, List.cons_append]
  gi_wp2
  refine rounds_ind N (fun k a wr => (∃ v2 v3 v4 v5 v6 v7 v8 v9 v10 v11 v12 v13 v14 v15 v16 : Value, a = { tmps := #[.func (.yield l) #[] #[], .pointer (some ⟨Bt, 0, none⟩), v2, v3, v4, v5, v6, v7, v8, v9, v10, v11, v12, v13, v14, v15, v16], defers := [] }) ∧ J (t.steps k) wr ∧ wr.heap[Bt]? = some (.cells (t.at k).c 46 (0, 0)) ∧ ∀ j, j < k → (t.at j).dir ≠ 6) ?_ ?_ _ _ ?_
  · rintro k a wr ⟨_, hj, _⟩
    exact hN _ _ hj
  · rintro k _ wr ⟨⟨v2, v3, v4, v5, v6, v7, v8, v9, v10, v11, v12, v13, v14, v15, v16, rfl⟩, hj, hg, hno⟩
    have HNO := hid hno
    clear hno
    have HL : (loadVar 46 ⟨Bt, 0, none⟩).run Try.prog wr = .ok (.agg (t.at k).c) wr := run_loadVar_row wr Bt 46 46 _ (0, 0) _ hg Try.underlying46 rfl info46
    have HD : ∀ w : World, CallsIn Fence.wide 2 Try.prog 35 #[.agg (t.at k).c] w fun e w' => e = .returned (.int .i64 (t.at k).dir) ∧ Below w.heap.size w w' := fun w => callsIn_wide.2 (direct_any _ _ _ _ _ _ _ _ _ _ _ _ _ _ _ w)
    have HAF : ∀ w : World, CallsIn Fence.wide 2 Try.prog 42 #[.agg (t.at k).c, .int .i64 (t.at k).dir] w fun e w' => e = .returned (.agg (t.at (k + 1)).c) ∧ Below w.heap.size w w' := fun w => callsIn_wide.2 (HA (t.at k) (hok.at k) w)
    have HS := t.steps_succ k
    have hST : ∀ w : World, w.heap[Bt]? = some (.cells (t.at k).c 46 (0, 0)) → (storeVar 46 ⟨Bt, 0, none⟩ (.agg (t.at (k + 1)).c)).run Try.prog w = .ok () (w.setRow Bt (t.at (k + 1)).c) := fun w hw =>
      run_storeVar_row w Bt 46 46 _ _ hw (by rw [show ((t.at (k + 1)).c).size = 15 from rfl]; exact info46) rfl (by simp [Ty.c, Value.oneCell'])
    have HST := hid hST
    clear hST
    have HDC := hid HD
    have HAC := hid HAF
    have HSC := hid HS
    have hsz : ((t.at k).c).size = 15 ∧ ((t.at (k + 1)).c).size = 15 ∧ ((t.at (k + 1)).c).all (·.oneCell') = true := ⟨rfl, rfl, by simp [Ty.c, Value.oneCell']⟩
    have HZ := hid hsz
    clear HD HAF HS hsz
    have hgH := hid hg
    have hjH := hid hj
    clear hg hj
    generalize (t.at k).c = c0 at *
    generalize (t.at (k + 1)).c = c1 at *
    generalize hdd : (t.at k).dir = d at *
    have hddH := hid hdd
    clear hdd
    gi_wp2_with (first | (refine wpListIn_load_row wr rfl 46 _ rfl Bt rfl _ HL ?_) | (refine ⟨trivial, ?_⟩; gi_at_call 35; refine (HDC.out _).mono ?_; rintro e w2 ⟨rfl, hb2⟩))
    obtain ⟨fn, tmps, assign, body, hy, hR⟩ := hY _ d w2 (hJ _ _ _ hjH.out (steps_below hb2))
    rw [hy, Oper.uponIn_round]
    refine ⟨(fun h => by cases h), ?_⟩
    have hg2 : w2.heap[Bt]? = some (.cells c0 46 (0, 0)) := (hb2.block Bt (Array.getElem?_eq_some_iff.1 hgH.out).1).trans hgH.out
    have HG2 := hid hg2
    clear hg2
    refine hR.mono ?_
    rintro e W3 (⟨rfl, hJ3, hk3⟩ | ⟨rfl, hJx3⟩)
    · have hg3 := hk3.trans HG2.out
      have HL3 : (loadVar 46 ⟨Bt, 0, none⟩).run Try.prog W3 = .ok (.agg c0) W3 := run_loadVar_row W3 Bt 46 46 _ (0, 0) _ hg3 Try.underlying46 rfl (by rw [HZ.out.1]; exact info46)
      have HG3 := hid hg3
      have HJ3 := hid hJ3
      clear hg3 hJ3 hk3
      by_cases hd6 : d = 6
      · subst hd6
        gi_wp2
        refine bodyPost_ret (results_none rfl _ _ _) rfl ?_
        exact ⟨⟨_, rfl⟩, .inl ⟨_, ⟨k, HSC.out.symm, hddH.out, HNO.out⟩, HJ3.out⟩⟩
      · gi_wp2_with (first | (refine wpListIn_load_row W3 rfl 46 _ rfl Bt rfl _ HL3 ?_) | (refine wpListIn_store_row _ rfl 46 _ _ rfl Bt rfl _ rfl _ hst ?_) | (refine ⟨trivial, ?_⟩; gi_at_call 42; refine (HAC.out _).mono ?_; rintro e w4 ⟨rfl, hb4⟩; have hg4 := hid ((hb4.block Bt (Array.getElem?_eq_some_iff.1 HG3.out).1).trans HG3.out); have hst := HST.out w4 hg4.out))
        refine ⟨⟨_, _, _, _, _, _, _, _, _, _, _, _, _, _, _, rfl⟩, ?_, setRow_heap w4 Bt _ _ _ _ hg4.out, ?_⟩
        · rw [HSC.out]
          exact hJ _ _ _ (hJ _ _ _ HJ3.out (steps_below hb4)) (steps_row Bt w4 c1)
        · intro j hj
          by_cases h : j = k
          · rw [h, hddH.out]; exact hd6
          · exact HNO.out j (by omega)
    · gi_wp2
      refine bodyPost_ret (results_none rfl _ _ _) rfl ?_
      exact ⟨⟨_, rfl⟩, .inr ⟨_, ⟨k, HSC.out.symm, HNO.out⟩, hJx3⟩⟩
  · exact ⟨⟨_, _, _, _, _, _, _, _, _, _, _, _, _, _, _, rfl⟩, h0, hT, fun j hj => absurd hj (Nat.not_lt_zero j)⟩
end Go.Proofs.Ytikejheoakhojaa
