import Derived.Test.YtgibkebdkhildaaRows
import Derived.WalkKit
import Derived.WalkLawsBesides
import Derived.WalkSpells
import Derived.BigQuiet
import Derived.Deep.QuietTactic
namespace Go.Proofs.Ytgibkebdkhildaa
open Go.RowKit

/-- the cells of a page -/
def ca (C : List Int) : Array Value := (C.map (Value.int .u64)).toArray

theorem ca_get (C : List Int) (i : Nat) (h : i < C.length) : (ca C)[i]? = some (.int .u64 (C[i]?.getD 0)) := by
  simp [ca, List.getElem?_eq_getElem h]

theorem ca_size (C : List Int) : (ca C).size = C.length := by simp [ca]

end Go.Proofs.Ytgibkebdkhildaa
