/-
  No cell of these rows narrows 'for every input' (looked for: loops, veiled, ifaces, maps, wideKeys, modest, calm, conditions, laid).
  DERIVED. THE GIVEN ROWS OF THIS SEAT. 8 by the template 'for every input the law returns true; each argument reads behind the call as it read before'; 0 by the template 'total and deterministic' (their statements: YtgibkebdkhildaaTotals.lean).
  GIVEN WITH THE SEED: the statements are not yours to turn. If you find one false, say at which input.
  Laid BY PROGRAM, IN A SANDBOX (cutbox-rows.mjs): the forced cells as the released guide's own fill.sh prints them over the translation d2750403a9c1fa51… (all of the seat's roots in one cut). By AI agents, Wed Nov 11 2026. No macro, syntax, notation, axiom, sorry.
-/
import Derived.Test.YtgibkebdkhildaaChecked
import GoSem.Claim
import GoSem.ClaimJoined
import GoSem.ClaimMapViews
import Derived.JoinedTies
import Derived.KernelRfl
namespace Go.Proofs.Ytgibkebdkhildaa
/- THE CELL 'sum', in the pinned program and in every row, IS THE sha256 OF THE DUMP (.gsa) THAT YtgibkebdkhildaaProg.lean LOADS. Nothing in Lean hashes anything: it is a label: what it is worth is what the hold of that sum in a sandbox is worth. -/
noncomputable def Try.pinned : Pinned := { name := "ytgibkebdkhildaa", sum := "d2750403a9c1fa51bf9517d1f61a46b948eff7d5349ef8e1343e7100f65478c1", checked := Try.checked }
namespace Rows
def none {H : Type} : Left H := { results := [], args := [] }

/-- 'headgatelaw04.PageWords': WHATEVER THE INPUT: true; the input reads as it did. -/
def pageWordsSpec : ChangeSpec := { name := "pageWords", fn := fun _ => fun
  | [d1, d2, d3] => { results := [.lit (.bool true)], args := [d1, d2, d3] }
  | _ => none }
def pageWordsRow : OpenClaim := { program := "ytgibkebdkhildaa", sum := "d2750403a9c1fa51bf9517d1f61a46b948eff7d5349ef8e1343e7100f65478c1", func := "headgate/headgatelaw04.PageWords", spec := "pageWords", apart := false }
def PageWordsSaid : Prop := pageWordsRow.holds Try.pinned (OpenSpec.ofChange pageWordsSpec)

/-- ITS FALSE NEIGHBOUR: 'it returns false'. Refute it at one input. -/
def pageWordsWrong : ChangeSpec := { name := "pageWords", fn := fun _ => fun
  | [d1, d2, d3] => { results := [.lit (.bool false)], args := [d1, d2, d3] }
  | _ => none }
def PageWordsWrongFalsely : Prop := pageWordsRow.holds Try.pinned (OpenSpec.ofChange pageWordsWrong)

/-- 'headgatelaw04.PageTells': WHATEVER THE INPUT: true; the input reads as it did. -/
def pageTellsSpec : ChangeSpec := { name := "pageTells", fn := fun _ => fun
  | [d1, d2, d3] => { results := [.lit (.bool true)], args := [d1, d2, d3] }
  | _ => none }
def pageTellsRow : OpenClaim := { program := "ytgibkebdkhildaa", sum := "d2750403a9c1fa51bf9517d1f61a46b948eff7d5349ef8e1343e7100f65478c1", func := "headgate/headgatelaw04.PageTells", spec := "pageTells", apart := false }
def PageTellsSaid : Prop := pageTellsRow.holds Try.pinned (OpenSpec.ofChange pageTellsSpec)

/-- ITS FALSE NEIGHBOUR: 'it returns false'. Refute it at one input. -/
def pageTellsWrong : ChangeSpec := { name := "pageTells", fn := fun _ => fun
  | [d1, d2, d3] => { results := [.lit (.bool false)], args := [d1, d2, d3] }
  | _ => none }
def PageTellsWrongFalsely : Prop := pageTellsRow.holds Try.pinned (OpenSpec.ofChange pageTellsWrong)

/-- 'headgatelaw04.PageBytes': WHATEVER THE INPUT: true; the input reads as it did. -/
def pageBytesSpec : ChangeSpec := { name := "pageBytes", fn := fun _ => fun
  | [d1, d2] => { results := [.lit (.bool true)], args := [d1, d2] }
  | _ => none }
def pageBytesRow : OpenClaim := { program := "ytgibkebdkhildaa", sum := "d2750403a9c1fa51bf9517d1f61a46b948eff7d5349ef8e1343e7100f65478c1", func := "headgate/headgatelaw04.PageBytes", spec := "pageBytes", apart := false }
def PageBytesSaid : Prop := pageBytesRow.holds Try.pinned (OpenSpec.ofChange pageBytesSpec)

/-- ITS FALSE NEIGHBOUR: 'it returns false'. Refute it at one input. -/
def pageBytesWrong : ChangeSpec := { name := "pageBytes", fn := fun _ => fun
  | [d1, d2] => { results := [.lit (.bool false)], args := [d1, d2] }
  | _ => none }
def PageBytesWrongFalsely : Prop := pageBytesRow.holds Try.pinned (OpenSpec.ofChange pageBytesWrong)

/-- 'headgatelaw04.PagePuts': WHATEVER THE INPUT: true; the input reads as it did. -/
def pagePutsSpec : ChangeSpec := { name := "pagePuts", fn := fun _ => fun
  | [d1, d2, d3] => { results := [.lit (.bool true)], args := [d1, d2, d3] }
  | _ => none }
def pagePutsRow : OpenClaim := { program := "ytgibkebdkhildaa", sum := "d2750403a9c1fa51bf9517d1f61a46b948eff7d5349ef8e1343e7100f65478c1", func := "headgate/headgatelaw04.PagePuts", spec := "pagePuts", apart := false }
def PagePutsSaid : Prop := pagePutsRow.holds Try.pinned (OpenSpec.ofChange pagePutsSpec)

/-- ITS FALSE NEIGHBOUR: 'it returns false'. Refute it at one input. -/
def pagePutsWrong : ChangeSpec := { name := "pagePuts", fn := fun _ => fun
  | [d1, d2, d3] => { results := [.lit (.bool false)], args := [d1, d2, d3] }
  | _ => none }
def PagePutsWrongFalsely : Prop := pagePutsRow.holds Try.pinned (OpenSpec.ofChange pagePutsWrong)

/-- 'headgatelaw04.PageLooks': WHATEVER THE INPUT: true; the input reads as it did. -/
def pageLooksSpec : ChangeSpec := { name := "pageLooks", fn := fun _ => fun
  | [d1, d2, d3] => { results := [.lit (.bool true)], args := [d1, d2, d3] }
  | _ => none }
def pageLooksRow : OpenClaim := { program := "ytgibkebdkhildaa", sum := "d2750403a9c1fa51bf9517d1f61a46b948eff7d5349ef8e1343e7100f65478c1", func := "headgate/headgatelaw04.PageLooks", spec := "pageLooks", apart := false }
def PageLooksSaid : Prop := pageLooksRow.holds Try.pinned (OpenSpec.ofChange pageLooksSpec)

/-- ITS FALSE NEIGHBOUR: 'it returns false'. Refute it at one input. -/
def pageLooksWrong : ChangeSpec := { name := "pageLooks", fn := fun _ => fun
  | [d1, d2, d3] => { results := [.lit (.bool false)], args := [d1, d2, d3] }
  | _ => none }
def PageLooksWrongFalsely : Prop := pageLooksRow.holds Try.pinned (OpenSpec.ofChange pageLooksWrong)

/-- 'headgatelaw04.PageParses': WHATEVER THE INPUT: true; the input reads as it did. -/
def pageParsesSpec : ChangeSpec := { name := "pageParses", fn := fun _ => fun
  | [d] => { results := [.lit (.bool true)], args := [d] }
  | _ => none }
def pageParsesRow : OpenClaim := { program := "ytgibkebdkhildaa", sum := "d2750403a9c1fa51bf9517d1f61a46b948eff7d5349ef8e1343e7100f65478c1", func := "headgate/headgatelaw04.PageParses", spec := "pageParses", apart := false }
def PageParsesSaid : Prop := pageParsesRow.holds Try.pinned (OpenSpec.ofChange pageParsesSpec)

/-- ITS FALSE NEIGHBOUR: 'it returns false'. Refute it at one input. -/
def pageParsesWrong : ChangeSpec := { name := "pageParses", fn := fun _ => fun
  | [d] => { results := [.lit (.bool false)], args := [d] }
  | _ => none }
def PageParsesWrongFalsely : Prop := pageParsesRow.holds Try.pinned (OpenSpec.ofChange pageParsesWrong)

/-- 'headgatelaw04.PageBack': WHATEVER THE INPUT: true; the input reads as it did. -/
def pageBackSpec : ChangeSpec := { name := "pageBack", fn := fun _ => fun
  | [d1, d2] => { results := [.lit (.bool true)], args := [d1, d2] }
  | _ => none }
def pageBackRow : OpenClaim := { program := "ytgibkebdkhildaa", sum := "d2750403a9c1fa51bf9517d1f61a46b948eff7d5349ef8e1343e7100f65478c1", func := "headgate/headgatelaw04.PageBack", spec := "pageBack", apart := false }
def PageBackSaid : Prop := pageBackRow.holds Try.pinned (OpenSpec.ofChange pageBackSpec)

/-- ITS FALSE NEIGHBOUR: 'it returns false'. Refute it at one input. -/
def pageBackWrong : ChangeSpec := { name := "pageBack", fn := fun _ => fun
  | [d1, d2] => { results := [.lit (.bool false)], args := [d1, d2] }
  | _ => none }
def PageBackWrongFalsely : Prop := pageBackRow.holds Try.pinned (OpenSpec.ofChange pageBackWrong)

/-- 'headgatelaw04.PageKnown': WHATEVER THE INPUT: true; the input reads as it did. -/
def pageKnownSpec : ChangeSpec := { name := "pageKnown", fn := fun _ => fun
  | [] => { results := [.lit (.bool true)], args := [] }
  | _ => none }
def pageKnownRow : OpenClaim := { program := "ytgibkebdkhildaa", sum := "d2750403a9c1fa51bf9517d1f61a46b948eff7d5349ef8e1343e7100f65478c1", func := "headgate/headgatelaw04.PageKnown", spec := "pageKnown", apart := false }
def PageKnownSaid : Prop := pageKnownRow.holds Try.pinned (OpenSpec.ofChange pageKnownSpec)

/-- ITS FALSE NEIGHBOUR: 'it returns false'. Refute it at one input. -/
def pageKnownWrong : ChangeSpec := { name := "pageKnown", fn := fun _ => fun
  | [] => { results := [.lit (.bool false)], args := [] }
  | _ => none }
def PageKnownWrongFalsely : Prop := pageKnownRow.holds Try.pinned (OpenSpec.ofChange pageKnownWrong)

/- THE SECOND FORM. 'bulk': how many values and letters a reading holds, each counted each time it is reached (what is shared counts as often as it is met; a slice's spare places count too). A statement '..UptoSaid' is the law's where the arguments, and the package variables that the reading takes, are together of bulk at most 1048576: NARROWER than '..Said'. Prove '..Said' where nothing that the law and all that it calls make is longer than what came in: it says more and counts as full. Else prove '..UptoSaid'. A law counts once. -/
mutual
def uptoBulk {H : Type} : DataW H → Nat
  | .lit (.string bytes) => bytes.length + 1
  | .lit _ => 1
  | .nil => 1
  | .ptr d => uptoBulk d + 1
  | .slice elems spare => uptoBulkAll elems + uptoBulkAll spare + 1
  | .agg parts => uptoBulkAll parts + 1
  | .iface _ d => uptoBulk d + 1
  | .map entries => uptoBulkEntries entries + 1
  | .held _ => 1
def uptoBulkAll {H : Type} : List (DataW H) → Nat
  | [] => 0
  | d :: r => uptoBulk d + uptoBulkAll r
def uptoBulkEntries {H : Type} : List (Lit × DataW H) → Nat
  | [] => 0
  | x :: r => uptoBulkEntry x + uptoBulkEntries r
def uptoBulkEntry {H : Type} : Lit × DataW H → Nat
  | (.string bytes, d) => bytes.length + uptoBulk d + 1
  | (_, d) => uptoBulk d + 1
 end
def uptoSmall : (H : Type) → List (DataW H) → Bool := fun _ ds => decide (uptoBulkAll ds ≤ 1048576)
def OpenSpec.upto (s : _root_.Go.ChangeSpec) : _root_.Go.OpenSpec := { _root_.Go.OpenSpec.ofChange s with cond := some uptoSmall }

/-- 'headgatelaw04.PageWords', WHERE WHAT IT READS IS OF BULK AT MOST 1048576: true; the input reads as it did. -/
def pageWordsUptoRow : OpenClaim := { program := "ytgibkebdkhildaa", sum := "d2750403a9c1fa51bf9517d1f61a46b948eff7d5349ef8e1343e7100f65478c1", func := "headgate/headgatelaw04.PageWords", spec := "pageWords", apart := false, narrowed := true }
def PageWordsUptoSaid : Prop := pageWordsUptoRow.holds Try.pinned (OpenSpec.upto pageWordsSpec)

/-- 'headgatelaw04.PageTells', WHERE WHAT IT READS IS OF BULK AT MOST 1048576: true; the input reads as it did. -/
def pageTellsUptoRow : OpenClaim := { program := "ytgibkebdkhildaa", sum := "d2750403a9c1fa51bf9517d1f61a46b948eff7d5349ef8e1343e7100f65478c1", func := "headgate/headgatelaw04.PageTells", spec := "pageTells", apart := false, narrowed := true }
def PageTellsUptoSaid : Prop := pageTellsUptoRow.holds Try.pinned (OpenSpec.upto pageTellsSpec)

/-- 'headgatelaw04.PageBytes', WHERE WHAT IT READS IS OF BULK AT MOST 1048576: true; the input reads as it did. -/
def pageBytesUptoRow : OpenClaim := { program := "ytgibkebdkhildaa", sum := "d2750403a9c1fa51bf9517d1f61a46b948eff7d5349ef8e1343e7100f65478c1", func := "headgate/headgatelaw04.PageBytes", spec := "pageBytes", apart := false, narrowed := true }
def PageBytesUptoSaid : Prop := pageBytesUptoRow.holds Try.pinned (OpenSpec.upto pageBytesSpec)

/-- 'headgatelaw04.PagePuts', WHERE WHAT IT READS IS OF BULK AT MOST 1048576: true; the input reads as it did. -/
def pagePutsUptoRow : OpenClaim := { program := "ytgibkebdkhildaa", sum := "d2750403a9c1fa51bf9517d1f61a46b948eff7d5349ef8e1343e7100f65478c1", func := "headgate/headgatelaw04.PagePuts", spec := "pagePuts", apart := false, narrowed := true }
def PagePutsUptoSaid : Prop := pagePutsUptoRow.holds Try.pinned (OpenSpec.upto pagePutsSpec)

/-- 'headgatelaw04.PageLooks', WHERE WHAT IT READS IS OF BULK AT MOST 1048576: true; the input reads as it did. -/
def pageLooksUptoRow : OpenClaim := { program := "ytgibkebdkhildaa", sum := "d2750403a9c1fa51bf9517d1f61a46b948eff7d5349ef8e1343e7100f65478c1", func := "headgate/headgatelaw04.PageLooks", spec := "pageLooks", apart := false, narrowed := true }
def PageLooksUptoSaid : Prop := pageLooksUptoRow.holds Try.pinned (OpenSpec.upto pageLooksSpec)

/-- 'headgatelaw04.PageParses', WHERE WHAT IT READS IS OF BULK AT MOST 1048576: true; the input reads as it did. -/
def pageParsesUptoRow : OpenClaim := { program := "ytgibkebdkhildaa", sum := "d2750403a9c1fa51bf9517d1f61a46b948eff7d5349ef8e1343e7100f65478c1", func := "headgate/headgatelaw04.PageParses", spec := "pageParses", apart := false, narrowed := true }
def PageParsesUptoSaid : Prop := pageParsesUptoRow.holds Try.pinned (OpenSpec.upto pageParsesSpec)

/-- 'headgatelaw04.PageBack', WHERE WHAT IT READS IS OF BULK AT MOST 1048576: true; the input reads as it did. -/
def pageBackUptoRow : OpenClaim := { program := "ytgibkebdkhildaa", sum := "d2750403a9c1fa51bf9517d1f61a46b948eff7d5349ef8e1343e7100f65478c1", func := "headgate/headgatelaw04.PageBack", spec := "pageBack", apart := false, narrowed := true }
def PageBackUptoSaid : Prop := pageBackUptoRow.holds Try.pinned (OpenSpec.upto pageBackSpec)

/-- 'headgatelaw04.PageKnown', WHERE WHAT IT READS IS OF BULK AT MOST 1048576: true; the input reads as it did. -/
def pageKnownUptoRow : OpenClaim := { program := "ytgibkebdkhildaa", sum := "d2750403a9c1fa51bf9517d1f61a46b948eff7d5349ef8e1343e7100f65478c1", func := "headgate/headgatelaw04.PageKnown", spec := "pageKnown", apart := false, narrowed := true }
def PageKnownUptoSaid : Prop := pageKnownUptoRow.holds Try.pinned (OpenSpec.upto pageKnownSpec)

end Rows
end Go.Proofs.Ytgibkebdkhildaa
