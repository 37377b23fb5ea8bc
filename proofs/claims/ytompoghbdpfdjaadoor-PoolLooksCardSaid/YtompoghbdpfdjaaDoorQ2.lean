/- The walks of PoolMakes, PoolChanges and PoolLooks. Condition: the table of math/bits as it is laid. -/
import Derived.Test.YtompoghbdpfdjaaDoorQ1
namespace Go.Proofs.YtompoghbdpfdjaaDoor
set_option linter.unusedVariables false
open Go.RowKit Go.Proofs.YtompoghbdpfdjaaDoorW.PrintWords Go.Proofs.YtompoghbdpfdjaaDoorW.PrintLast Go.Proofs.YtompoghbdpfdjaaDoorW.PrintMore

/-- A slice of integers that came in: nil, or a row of 'cap' cells of which the first 'len' are its elements. -/
def IsRow (k : IntKind) (w : World) (a : Option Addr) (len cap : Nat) (zs : List Int) : Prop :=
  (a = none ∧ len = 0 ∧ cap = 0 ∧ zs = []) ∨
  ∃ x, a = some x ∧ len ≤ cap ∧ cap ≤ maxLen ∧ zs.length = cap ∧ (∀ i, i < zs.length → w.cell? (x.add i) = some (.int k (zs.getD i 0))) ∧ ∀ n ∈ zs, (Lit.int k n).wf = true
theorem makes_walk (a : Int) (wa : (Lit.int .i64 a).wf = true) (W : World) (gc : GC W) :
    Calls Tryd.prog 3 #[.int .i64 a] W fun e w' => e = .returned (.bool true) ∧ Below W.heap.size W w' := PA.headgatelaw14_PoolMakes.walk PA.makes_pure a W wa gc
theorem changes_walk (sz : Int) (wsz : (Lit.int .i64 sz).wf = true) (A : Option Addr) (len cap : Nat) (zs : List Int) (d : Int) (wd : (Lit.int .i64 d).wf = true) (W : World) (hz : IsRow .i64 W A len cap zs) (gc : GC W) :
    Calls Tryd.prog 4 #[.agg #[.int .i64 sz, .slice A len cap], .int .i64 d] W fun e w' => e = .returned (.bool true) ∧ Below W.heap.size W w' := by
  obtain ⟨l1, rfl, hr1, hm1, hw1, hc1⟩ := ReadsInt.ofRowC hz
  obtain ⟨k, h⟩ := PA.changes_pure sz l1 d
  exact PA.headgatelaw14_PoolChanges.calls k sz _ _ l1 d true W (Kd.C_of_reads (d := (0 : Int)) (h1 := fun _ => rfl) hr1) hc1 h ⟨rfl⟩ gc
theorem looks_walk (sz : Int) (wsz : (Lit.int .i64 sz).wf = true) (A : Option Addr) (len cap : Nat) (zs : List Int) (d : Int) (wd : (Lit.int .i64 d).wf = true) (W : World) (hz : IsRow .i64 W A len cap zs) (gc : GC W) :
    Calls Tryd.prog 5 #[.agg #[.int .i64 sz, .slice A len cap], .int .i64 d] W fun e w' => e = .returned (.bool true) ∧ Below W.heap.size W w' := by
  obtain ⟨l1, rfl, hr1, hm1, hw1, hc1⟩ := ReadsInt.ofRowC hz
  obtain ⟨k, h⟩ := PA.looks_pure sz l1 d
  exact PA.headgatelaw14_PoolLooks.calls k sz _ _ l1 d true W (Kd.C_of_reads (d := (0 : Int)) (h1 := fun _ => rfl) hr1) hc1 h ⟨rfl⟩ gc
end Go.Proofs.YtompoghbdpfdjaaDoor
