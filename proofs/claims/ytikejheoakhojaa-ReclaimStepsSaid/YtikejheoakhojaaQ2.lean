/- ReclaimSteps in closed form, and as a walk. No condition. -/
import Derived.Test.YtikejheoakhojaaQ1
import Derived.Test.YtikejheoakhojaaPAx10
namespace Go.Proofs.Ytikejheoakhojaa.PA
open Go.RowKit Go.Proofs.YtikejheoakhojaaW.PrintWords Go.Proofs.YtikejheoakhojaaW.PrintLast
set_option linter.unusedVariables false
set_option linter.unusedSimpArgs false
theorem steps_pure (A B C D : Int) (E : Bool) (F G H I : Int) (J : Bool) (L M N O P : Int) : headgatelaw33_ReclaimSteps.f 100 A B C D E F G H I J L M N O P = some true := by
 have hne : ∀ x : Int, (x != x) = false := fun x => by simp
 obtain ⟨d1, d2⟩ := pdirect 100 (by omega) A B C D E F G H I J L M N O P _ rfl
 unfold headgatelaw33_ReclaimSteps.f
 rw [d1, d2, chk_f 100 (by omega), rchk_f 100 (by omega)]
 simp only [Option.bind_some, if_true, hne]
 clear d1 d2
 obtain ⟨d1, d2⟩ := pbackground 99 (by omega) A B C D E F G H I J L M N O P _ rfl
 rw [show 100 = 99 + 1 from rfl, headgatelaw33_ReclaimSteps.j0, if_neg (by simp), d1, d2]
 simp only [Option.bind_some, if_true, hne]
 clear d1 d2
 obtain ⟨d1, d2⟩ := phinders 98 (by omega) A B C D E F G H I J L M N O P _ rfl
 rw [show 99 = 98 + 1 from rfl, headgatelaw33_ReclaimSteps.j1, if_neg (by simp), d1, d2]
 simp only [Option.bind_some]
 have hl : ((if chkE ⟨A, B, C, D, E, F, G, H, I, J, L, M, N, O, P⟩ = 0 then (hdF G H L M O P, (0 : Int)) else ([], chkE ⟨A, B, C, D, E, F, G, H, I, J, L, M, N, O, P⟩)).1 : List Int).length ≤ 10 := by
  have := hdTo_len (hdB G H L M O P) 4
  have h2 : (hdF G H L M O P).length ≤ 4 := this
  split
  ·simp only; omega
  ·simp
 rw [sameInts _ (by omega) 98 (by omega)]
 simp only [Option.bind_some, if_true, hne]
 clear d1 d2 hl
 obtain ⟨x, u, v⟩ := pwakes 97 (by omega) A B C D E F G H I J L M N O P
 obtain ⟨y, y1, y2⟩ := pstuck 97 (by omega) A B C D E F G H I J L M N O P
 rw [show 98 = 97 + 1 from rfl, headgatelaw33_ReclaimSteps.j2, if_neg (by simp), u, v, y1, y2]
 simp only [Option.bind_some, if_true, beq_self_eq_true]
 rfl
end Go.Proofs.Ytikejheoakhojaa.PA
namespace Go.Proofs.Ytikejheoakhojaa
set_option linter.unusedVariables false
open Go.RowKit
theorem steps_walk (A : Int) (w0 : (Lit.int .i64 A).wf = true) (B : Int) (w1 : (Lit.int .i64 B).wf = true) (C : Int) (w2 : (Lit.int .i64 C).wf = true) (D : Int) (w3 : (Lit.int .i64 D).wf = true) (E : Bool) (F : Int) (w5 : (Lit.int .i64 F).wf = true) (G : Int) (w6 : (Lit.int .i64 G).wf = true) (H : Int) (w7 : (Lit.int .i64 H).wf = true) (I : Int) (w8 : (Lit.int .i64 I).wf = true) (J : Bool) (L : Int) (w10 : (Lit.int .i64 L).wf = true) (M : Int) (w11 : (Lit.int .i64 M).wf = true) (N : Int) (w12 : (Lit.int .i64 N).wf = true) (O : Int) (w13 : (Lit.int .i64 O).wf = true) (P : Int) (w14 : (Lit.int .i64 P).wf = true) (w : World) :
  Calls Try.prog 3 #[.agg #[.int .i64 A, .int .i64 B, .int .i64 C, .int .i64 D, .bool E, .int .i64 F, .int .i64 G, .int .i64 H, .int .i64 I, .bool J, .int .i64 L, .int .i64 M, .int .i64 N, .int .i64 O, .int .i64 P]] w fun e w' => e = .returned (.bool true) ∧ Below w.heap.size w w' :=
 PA.headgatelaw33_ReclaimSteps.calls 100 A B C D E F G H I J L M N O P true w (PA.steps_pure A B C D E F G H I J L M N O P) ⟨rfl⟩
end Go.Proofs.Ytikejheoakhojaa
