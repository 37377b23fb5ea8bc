/- PressureRuns in closed form, and as a walk. No condition. -/
import Derived.Test.YtfjfmhkifaiakaaQ2
import Derived.Test.YtfjfmhkifaiakaaPAx14
namespace Go.Proofs.Ytfjfmhkifaiakaa.PA
open Go.RowKit Go.Proofs.YtfjfmhkifaiakaaW.PrintWords Go.Proofs.YtfjfmhkifaiakaaW.PrintLast
set_option linter.unusedVariables false
set_option linter.unusedSimpArgs false

theorem runs_small (lo md hi : Int) (l : List Int) (hl : l.length ≤ 410) : headgatelaw32_PressureRuns.j0 2000 l false lo md hi = some true := by
  have hl' : l.length ≤ 1000000 := by omega
  rw [show 2000 = 1999 + 1 from rfl, headgatelaw32_PressureRuns.j0, if_neg (by simp), ownInts l hl']
  simp only [Option.bind_some]
  rw [pRun lo md hi l hl' _ (by omega), rRun lo md hi l hl' _ (by omega), pSpans lo md hi l hl' _ (by omega), rSpans lo md hi l hl' _ (by omega)]
  simp only [Option.bind_some]
  have hr : (runE lo md hi l).1.length ≤ 410 := by unfold runE; split <;> simp [runL_len]; omega
  have hs : (spnE lo md hi l).1.length ≤ 410 := by
    have := spnL_len md hi l
    unfold spnE; split <;> simp; omega
  rw [sameBools _ (by omega) _ (by omega), sameSpans _ (by omega) _ (by omega)]
  simp only [Option.bind_some, if_true]
  rw [show ((spnE lo md hi l).2 != (spnE lo md hi l).2) = false by simp, show 1999 = 1998 + 1 from rfl, headgatelaw32_PressureRuns.j1, if_neg (by simp), pWorst lo md hi l hl' _ (by omega), rWorst lo md hi l hl' _ (by omega)]
  simp only [Option.bind_some, if_true]
  rw [sameInts l hl' _ (by omega)]
  simp only [Option.bind_some, if_true]
  rw [awake_k _ (by omega)]
  rfl
theorem runs_pure (lo md hi : Int) (l : List Int) : headgatelaw32_PressureRuns.f 2000 lo md hi l = some true := by
  unfold headgatelaw32_PressureRuns.f
  have big : headgatelaw32_PressureRuns.j0 2000 l true lo md hi = some true := by
    rw [show 2000 = 1999 + 1 from rfl, headgatelaw32_PressureRuns.j0, if_pos rfl, awake_k _ (by omega)]
    rfl
  by_cases h1 : (l.length : Int) > 410
  · rw [show decide ((l.length : Int) > 410) = true by simpa using h1]
    (repeat' split) <;> exact big
  · rw [show decide ((l.length : Int) > 410) = false by simpa using h1]
    by_cases h2 : (l.length : Int) > 60
    · rw [if_pos h2]
      split
      · exact big
      · exact runs_small lo md hi l (by omega)
    · rw [if_neg h2]
      exact runs_small lo md hi l (by omega)
end Go.Proofs.Ytfjfmhkifaiakaa.PA
namespace Go.Proofs.Ytfjfmhkifaiakaa
open Go.RowKit Go.Proofs.YtfjfmhkifaiakaaW.PrintWords
def IsRow (k : IntKind) (w : World) (a : Option Addr) (len cap : Nat) (zs : List Int) : Prop :=
  (a = none ∧ len = 0 ∧ cap = 0 ∧ zs = []) ∨
  ∃ x, a = some x ∧ len ≤ cap ∧ cap ≤ maxLen ∧ zs.length = cap ∧ (∀ i, i < zs.length → w.cell? (x.add i) = some (.int k (zs.getD i 0))) ∧ ∀ n ∈ zs, (Lit.int k n).wf = true
theorem runs_walk (x0 : Int) (w0 : (Lit.int .i64 x0).wf = true) (x1 : Int) (w1 : (Lit.int .i64 x1).wf = true) (x2 : Int) (w2 : (Lit.int .i64 x2).wf = true) (a : Option Addr) (len cap : Nat) (z : List Int) (hb : cap * 8 ≤ 140737488351232) (w : World) (hz : IsRow .i64 w a len cap z) :
    Calls Try.prog 7 #[.agg #[.int .i64 x0, .int .i64 x1, .int .i64 x2], .slice a len cap] w fun e w' => e = .returned (.bool true) ∧ Below w.heap.size w w' := by
  obtain ⟨l, rfl, hr, hm, hw, hc⟩ := ReadsInt.ofRowC hz
  exact PA.headgatelaw32_PressureRuns.calls 2000 x0 x1 x2 a cap l true w (Kd.C_of_reads (d := (0 : Int)) (h1 := fun _ => rfl) hr) hc (PA.runs_pure x0 x1 x2 l)
end Go.Proofs.Ytfjfmhkifaiakaa
