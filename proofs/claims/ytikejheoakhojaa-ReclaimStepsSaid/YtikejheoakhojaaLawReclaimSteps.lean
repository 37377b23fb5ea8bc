/- 'ReclaimSteps' returns true for every input: Rows.ReclaimStepsSaid. No condition beyond the row's own. -/
import Derived.Test.YtikejheoakhojaaRows
import Derived.Test.YtikejheoakhojaaQ2
import Derived.WalkKit
import Derived.ProofKit
import Derived.OpenShut
import Derived.ShutString
import Derived.ChangeOld
import Derived.Below
import Derived.SizedLaws
import Derived.Lib.SmallJoins
import Derived.Deep.Slices
import Derived.Deep.Fields
import Derived.ChangeSame
namespace Go.Proofs.Ytikejheoakhojaa.lawReclaimSteps
open Go.ChangeShapes Go.WideShapes Go.ChangeAt Go.RowKit Go.Joins Go.Deep
open Go.ChangeMaps (open_string shut_string)
set_option linter.unusedVariables false
theorem own : ownKnob Try.prog.godebug = none := by kernel_rfl
theorem laidOut : laidOutB Try.prog = true := by kernel_rfl
section
variable {H : Type} {enc : TypeId × Value → H} {P : Program} {w : World} {b : Nat} {s : Nat → Bool} {u : Bool}
theorem open_st23 {r : Reach} {b0 : Nat} {t : TypeId} {f0 f1 f2 f3 f4 f5 f6 f7 f8 f9 f10 f11 f12 f13 f14 : Field} {v : Value} {d : DataW H} {p : List MemPlace} (hs : P.underlying t = some (.struct #[f0, f1, f2, f3, f4, f5, f6, f7, f8, f9, f10, f11, f12, f13, f14])) (hone : oneCellFields P #[f0, f1, f2, f3, f4, f5, f6, f7, f8, f9, f10, f11, f12, f13, f14] = true) (hC : P.cellsOf t = 15)
  (hv : Value.okWide P w r b0 t v) (h : DataW.Trod enc P w b s u t v d p) :
  ∃ (v0 v1 v2 v3 v4 v5 v6 v7 v8 v9 v10 v11 v12 v13 v14 : Value) (y0 y1 y2 y3 y4 y5 y6 y7 y8 y9 y10 y11 y12 y13 y14 : DataW H × List MemPlace) (n : Nat), v = .agg #[v0, v1, v2, v3, v4, v5, v6, v7, v8, v9, v10, v11, v12, v13, v14] ∧
   DataW.trod enc P w b s u n f0.type [v0] = some y0 ∧ DataW.trod enc P w b s u n f1.type [v1] = some y1 ∧ DataW.trod enc P w b s u n f2.type [v2] = some y2 ∧ DataW.trod enc P w b s u n f3.type [v3] = some y3 ∧ DataW.trod enc P w b s u n f4.type [v4] = some y4 ∧ DataW.trod enc P w b s u n f5.type [v5] = some y5 ∧ DataW.trod enc P w b s u n f6.type [v6] = some y6 ∧ DataW.trod enc P w b s u n f7.type [v7] = some y7 ∧ DataW.trod enc P w b s u n f8.type [v8] = some y8 ∧ DataW.trod enc P w b s u n f9.type [v9] = some y9 ∧ DataW.trod enc P w b s u n f10.type [v10] = some y10 ∧ DataW.trod enc P w b s u n f11.type [v11] = some y11 ∧ DataW.trod enc P w b s u n f12.type [v12] = some y12 ∧ DataW.trod enc P w b s u n f13.type [v13] = some y13 ∧ DataW.trod enc P w b s u n f14.type [v14] = some y14 := by
 obtain ⟨cs, rfl, hsz⟩ := okWide_struct hs hv
 obtain ⟨l⟩ := cs
 match l, hsz.trans hC with
 | [c0, c1, c2, c3, c4, c5, c6, c7, c8, c9, c10, c11, c12, c13, c14], _ =>
  obtain ⟨fuel, hf⟩ := h
  obtain ⟨xs, n, _, hx, _, hlen, hg⟩ := DataW.trod_struct hs hf
  obtain ⟨o0, k0⟩ := hone_of hone 0 f0 rfl
  obtain ⟨o1, k1⟩ := hone_of hone 1 f1 rfl
  obtain ⟨o2, k2⟩ := hone_of hone 2 f2 rfl
  obtain ⟨o3, k3⟩ := hone_of hone 3 f3 rfl
  obtain ⟨o4, k4⟩ := hone_of hone 4 f4 rfl
  obtain ⟨o5, k5⟩ := hone_of hone 5 f5 rfl
  obtain ⟨o6, k6⟩ := hone_of hone 6 f6 rfl
  obtain ⟨o7, k7⟩ := hone_of hone 7 f7 rfl
  obtain ⟨o8, k8⟩ := hone_of hone 8 f8 rfl
  obtain ⟨o9, k9⟩ := hone_of hone 9 f9 rfl
  obtain ⟨o10, k10⟩ := hone_of hone 10 f10 rfl
  obtain ⟨o11, k11⟩ := hone_of hone 11 f11 rfl
  obtain ⟨o12, k12⟩ := hone_of hone 12 f12 rfl
  obtain ⟨o13, k13⟩ := hone_of hone 13 f13 rfl
  obtain ⟨o14, k14⟩ := hone_of hone 14 f14 rfl
  match xs, hlen with
  | [y0, y1, y2, y3, y4, y5, y6, y7, y8, y9, y10, y11, y12, y13, y14], _ =>
   exact ⟨c0, c1, c2, c3, c4, c5, c6, c7, c8, c9, c10, c11, c12, c13, c14, y0, y1, y2, y3, y4, y5, y6, y7, y8, y9, y10, y11, y12, y13, y14, n, rfl, by simpa [Value.cells, o0, k0] using hg 0 f0 rfl, by simpa [Value.cells, o1, k1] using hg 1 f1 rfl, by simpa [Value.cells, o2, k2] using hg 2 f2 rfl, by simpa [Value.cells, o3, k3] using hg 3 f3 rfl, by simpa [Value.cells, o4, k4] using hg 4 f4 rfl, by simpa [Value.cells, o5, k5] using hg 5 f5 rfl, by simpa [Value.cells, o6, k6] using hg 6 f6 rfl, by simpa [Value.cells, o7, k7] using hg 7 f7 rfl, by simpa [Value.cells, o8, k8] using hg 8 f8 rfl, by simpa [Value.cells, o9, k9] using hg 9 f9 rfl, by simpa [Value.cells, o10, k10] using hg 10 f10 rfl, by simpa [Value.cells, o11, k11] using hg 11 f11 rfl, by simpa [Value.cells, o12, k12] using hg 12 f12 rfl, by simpa [Value.cells, o13, k13] using hg 13 f13 rfl, by simpa [Value.cells, o14, k14] using hg 14 f14 rfl⟩
end
set_option maxRecDepth 100000 in
theorem lifted (os : Os) (started : os.Started) (H : Type) (enc : TypeId × Value → H) :
  ReturnsInHanded {} Try.checked os 3 .any (Rows.reclaimStepsSpec.pre6 enc Try.prog Try.f3 Rows.reclaimStepsRow.domain false) (Rows.reclaimStepsSpec.post enc Try.prog Try.f3 false true false false) := by
 refine returnsInHanded_of_change (C := Try.checked) own started (by kernel_rfl) Try.func3
  (ChangeSpec.witness6 (enc := enc) (C := Try.checked) false ⟨#[], #[.agg #[.int .i64 0, .int .i64 0, .int .i64 0, .int .i64 0, .bool false, .int .i64 0, .int .i64 0, .int .i64 0, .int .i64 0, .bool false, .int .i64 0, .int .i64 0, .int .i64 0, .int .i64 0, .int .i64 0]], []⟩ 8 (by kernel_rfl) (by kernel_rfl) (by kernel_rfl) (by kernel_rfl)) ?_
 intro W base args ds gs before hval0 hW hcnd _
 have hval : ∀ (j : Nat) t v, Try.f3.params[j]? = some t → args[j]? = some v → Value.okWide Try.prog W .any base t v := hval0
 have hW' := hW
 obtain ⟨p, q, hA0, hV, rfl, hfz, hnd⟩ := hW
 have hA : DataW.TrodAll enc Try.prog W 0 (fun _ => true) true Try.f3.params.toList args.toList ds p := hA0
 rw [Try.params3] at hA hval
 obtain ⟨v0, vs0, d0, ds0, p0, q0, hargs, rfl, rfl, h0, r0⟩ := trodAll_cons hA
 obtain ⟨rfl, rfl, rfl⟩ := trodAll_nil r0
 obtain rfl : args = #[v0] := by cases args; simp_all
 obtain ⟨rfl, rfl⟩ := trodVars_none hV
 have k0 := h0
 have lt0 : ∀ x ∈ p0, x.block < W.heap.size := by obtain ⟨m, hm⟩ := k0; exact DataW.trod_lt m _ _ _ hm
 have c0 : Try.prog.cellsOf 23 = 15 := by kernel_rfl
 obtain ⟨e0_0, e0_1, e0_2, e0_3, e0_4, e0_5, e0_6, e0_7, e0_8, e0_9, e0_10, e0_11, e0_12, e0_13, e0_14, y0_0, y0_1, y0_2, y0_3, y0_4, y0_5, y0_6, y0_7, y0_8, y0_9, y0_10, y0_11, y0_12, y0_13, y0_14, m0, rfl, t0_0, t0_1, t0_2, t0_3, t0_4, t0_5, t0_6, t0_7, t0_8, t0_9, t0_10, t0_11, t0_12, t0_13, t0_14⟩ := open_st23 Try.underlying23 (by kernel_rfl) c0 (hval 0 23 v0 rfl rfl) h0
 obtain ⟨a0_0, g0_0, _, w0_0⟩ := DataW.trod_int Try.underlying3 t0_0
 simp only [List.cons.injEq, and_true] at g0_0
 subst g0_0
 obtain ⟨a0_1, g0_1, _, w0_1⟩ := DataW.trod_int Try.underlying3 t0_1
 simp only [List.cons.injEq, and_true] at g0_1
 subst g0_1
 obtain ⟨a0_2, g0_2, _, w0_2⟩ := DataW.trod_int Try.underlying3 t0_2
 simp only [List.cons.injEq, and_true] at g0_2
 subst g0_2
 obtain ⟨a0_3, g0_3, _, w0_3⟩ := DataW.trod_int Try.underlying3 t0_3
 simp only [List.cons.injEq, and_true] at g0_3
 subst g0_3
 obtain ⟨a0_4, g0_4, _⟩ := DataW.trod_bool Try.underlying4 t0_4
 simp only [List.cons.injEq, and_true] at g0_4
 subst g0_4
 obtain ⟨a0_5, g0_5, _, w0_5⟩ := DataW.trod_int Try.underlying3 t0_5
 simp only [List.cons.injEq, and_true] at g0_5
 subst g0_5
 obtain ⟨a0_6, g0_6, _, w0_6⟩ := DataW.trod_int Try.underlying3 t0_6
 simp only [List.cons.injEq, and_true] at g0_6
 subst g0_6
 obtain ⟨a0_7, g0_7, _, w0_7⟩ := DataW.trod_int Try.underlying3 t0_7
 simp only [List.cons.injEq, and_true] at g0_7
 subst g0_7
 obtain ⟨a0_8, g0_8, _, w0_8⟩ := DataW.trod_int Try.underlying3 t0_8
 simp only [List.cons.injEq, and_true] at g0_8
 subst g0_8
 obtain ⟨a0_9, g0_9, _⟩ := DataW.trod_bool Try.underlying4 t0_9
 simp only [List.cons.injEq, and_true] at g0_9
 subst g0_9
 obtain ⟨a0_10, g0_10, _, w0_10⟩ := DataW.trod_int Try.underlying3 t0_10
 simp only [List.cons.injEq, and_true] at g0_10
 subst g0_10
 obtain ⟨a0_11, g0_11, _, w0_11⟩ := DataW.trod_int Try.underlying3 t0_11
 simp only [List.cons.injEq, and_true] at g0_11
 subst g0_11
 obtain ⟨a0_12, g0_12, _, w0_12⟩ := DataW.trod_int Try.underlying3 t0_12
 simp only [List.cons.injEq, and_true] at g0_12
 subst g0_12
 obtain ⟨a0_13, g0_13, _, w0_13⟩ := DataW.trod_int Try.underlying3 t0_13
 simp only [List.cons.injEq, and_true] at g0_13
 subst g0_13
 obtain ⟨a0_14, g0_14, _, w0_14⟩ := DataW.trod_int Try.underlying3 t0_14
 simp only [List.cons.injEq, and_true] at g0_14
 subst g0_14
 clear hA0 hval0
 refine (steps_walk a0_0 w0_0 a0_1 w0_1 a0_2 w0_2 a0_3 w0_3 a0_4 a0_5 w0_5 a0_6 w0_6 a0_7 w0_7 a0_8 w0_8 a0_9 a0_10 w0_10 a0_11 w0_11 a0_12 w0_12 a0_13 w0_13 a0_14 w0_14 W).mono fun e W' ⟨he, bel⟩ => ?_
 subst he
 exact ⟨_, rfl, _, _, _, [], _, [], hW', trodAll_mk1 (shut_bool Try.underlying4 _), (trodAll_cons_mk (Below.trod laidOut (by kernel_rfl) (of_decide_eq_true (by kernel_rfl)) k0 bel lt0) trodAll_mk0), rfl, bel.frame _, fun h => by cases h⟩
theorem over : Rows.reclaimStepsRow.holds Try.pinned (OpenSpec.ofChange Rows.reclaimStepsSpec) :=
 OpenClaim.holds_of_wide 3 Try.f3 rfl rfl rfl rfl rfl rfl rfl ⟨rfl, rfl, rfl, rfl, rfl⟩ rfl rfl rfl rfl rfl (by kernel_rfl) Try.func3 (by kernel_rfl)
  (of_decide_eq_true (by kernel_rfl)) (by unfold Func.isWrapper; first | (rw [if_pos (by decide +kernel)]; kernel_rfl) | (rw [if_neg (by decide +kernel)]; exact ⟨rfl, rfl⟩))
  (fun os started H enc _ => lifted os started H enc)
theorem proved : Rows.ReclaimStepsSaid := over
#print axioms proved
end Go.Proofs.Ytikejheoakhojaa.lawReclaimSteps
