/-
  DERIVED. GIVEN WITH THE SEED: THE CARDS: each row of YtaklhokabnjjcaaDoorRows.lean that lists a variable, with what it lists TIED to the program's text (the seventh form; the later family's looks); each row that meets fmt, with fmt's text TOLD by the authors' own Lean function (tested against real Go, not proved from fmt's source: count such statements apart). THE CARD IS WHAT COUNTS. Prove the row's statement (the work); the ties are given (YtaklhokabnjjcaaDoorTie.lean); close each card by the builder's one call (the guide's Derived/Test/ToyasCard.lean, 'card_holds'). Laid BY PROGRAM, IN A SANDBOX (cutbox-door.mjs). By AI agents, Wed Nov 11 2026. No macro, syntax, notation, axiom, sorry.
-/
import Derived.Test.YtaklhokabnjjcaaDoorRows
import GoSem.ClaimSeven
namespace Go.Proofs.YtaklhokabnjjcaaDoor
namespace Rows

/-- THE TIED CARD OF 'headgatelaw20.WoutRuns'. -/
def woutRunsCard : Claim7 := { stood := { row := woutRunsRow, standIns := [], harness := (true, "e541b55d5478496cd7009bb3082733d7549a8586273242a87874fb405c89351d"), looks := false }, kinds := [], alts := [], laidByText := true, laidKinds := [.data], laidTests := true, laidLooks := .later }
def WoutRunsCardSaid : Prop := Claim7.holds Tryd.pinned (.plain (OpenSpec.ofChange woutRunsSpec)) woutRunsCard

/-- THE TIED CARD OF 'headgatelaw20.WoutEnds'. -/
def woutEndsCard : Claim7 := { stood := { row := woutEndsRow, standIns := [], harness := (true, "e541b55d5478496cd7009bb3082733d7549a8586273242a87874fb405c89351d"), looks := false }, kinds := [], alts := [], laidByText := true, laidKinds := [.data], laidTests := true, laidLooks := .later }
def WoutEndsCardSaid : Prop := Claim7.holds Tryd.pinned (.plain (OpenSpec.ofChange woutEndsSpec)) woutEndsCard

/-- THE TIED CARD OF 'headgatelaw20.WoutEvents'. -/
def woutEventsCard : Claim7 := { stood := { row := woutEventsRow, standIns := [], harness := (true, "e541b55d5478496cd7009bb3082733d7549a8586273242a87874fb405c89351d"), looks := false }, kinds := [], alts := [], laidByText := true, laidKinds := [.data], laidTests := true, laidLooks := .later }
def WoutEventsCardSaid : Prop := Claim7.holds Tryd.pinned (.plain (OpenSpec.ofChange woutEventsSpec)) woutEventsCard

/-- THE TIED CARD OF 'headgatelaw20.WoutLooks'. -/
def woutLooksCard : Claim7 := { stood := { row := woutLooksRow, standIns := [], harness := (true, "e541b55d5478496cd7009bb3082733d7549a8586273242a87874fb405c89351d"), looks := false }, kinds := [], alts := [], laidByText := true, laidKinds := [.data], laidTests := true, laidLooks := .later }
def WoutLooksCardSaid : Prop := Claim7.holds Tryd.pinned (.plain (OpenSpec.ofChange woutLooksSpec)) woutLooksCard

/-- THE TIED CARD OF 'headgatelaw20.WoutOne'. -/
def woutOneCard : Claim7 := { stood := { row := woutOneRow, standIns := [], harness := (true, "e541b55d5478496cd7009bb3082733d7549a8586273242a87874fb405c89351d"), looks := false }, kinds := [], alts := [], laidByText := true, laidKinds := [.data], laidTests := true, laidLooks := .later }
def WoutOneCardSaid : Prop := Claim7.holds Tryd.pinned (.plain (OpenSpec.ofChange woutOneSpec)) woutOneCard

/-- THE TIED CARD OF 'headgatelaw20.WoutKnown'. -/
def woutKnownCard : Claim7 := { stood := { row := woutKnownRow, standIns := [], harness := (true, "e541b55d5478496cd7009bb3082733d7549a8586273242a87874fb405c89351d"), looks := false }, kinds := [], alts := [], laidByText := true, laidKinds := [.data], laidTests := true, laidLooks := .later }
def WoutKnownCardSaid : Prop := Claim7.holds Tryd.pinned (.plain (OpenSpec.ofChange woutKnownSpec)) woutKnownCard

/-- THE SECOND FORM's CARD OF 'headgatelaw20.WoutRuns'. -/
def woutRunsUptoCard : Claim7 := { stood := { row := woutRunsUptoRow, standIns := [], harness := (true, "e541b55d5478496cd7009bb3082733d7549a8586273242a87874fb405c89351d"), looks := false }, kinds := [], alts := [], laidByText := true, laidKinds := [.data], laidTests := true, laidLooks := .later }
def WoutRunsUptoCardSaid : Prop := Claim7.holds Tryd.pinned (.plain (OpenSpec.upto woutRunsSpec)) woutRunsUptoCard

/-- THE SECOND FORM's CARD OF 'headgatelaw20.WoutEnds'. -/
def woutEndsUptoCard : Claim7 := { stood := { row := woutEndsUptoRow, standIns := [], harness := (true, "e541b55d5478496cd7009bb3082733d7549a8586273242a87874fb405c89351d"), looks := false }, kinds := [], alts := [], laidByText := true, laidKinds := [.data], laidTests := true, laidLooks := .later }
def WoutEndsUptoCardSaid : Prop := Claim7.holds Tryd.pinned (.plain (OpenSpec.upto woutEndsSpec)) woutEndsUptoCard

/-- THE SECOND FORM's CARD OF 'headgatelaw20.WoutEvents'. -/
def woutEventsUptoCard : Claim7 := { stood := { row := woutEventsUptoRow, standIns := [], harness := (true, "e541b55d5478496cd7009bb3082733d7549a8586273242a87874fb405c89351d"), looks := false }, kinds := [], alts := [], laidByText := true, laidKinds := [.data], laidTests := true, laidLooks := .later }
def WoutEventsUptoCardSaid : Prop := Claim7.holds Tryd.pinned (.plain (OpenSpec.upto woutEventsSpec)) woutEventsUptoCard

/-- THE SECOND FORM's CARD OF 'headgatelaw20.WoutLooks'. -/
def woutLooksUptoCard : Claim7 := { stood := { row := woutLooksUptoRow, standIns := [], harness := (true, "e541b55d5478496cd7009bb3082733d7549a8586273242a87874fb405c89351d"), looks := false }, kinds := [], alts := [], laidByText := true, laidKinds := [.data], laidTests := true, laidLooks := .later }
def WoutLooksUptoCardSaid : Prop := Claim7.holds Tryd.pinned (.plain (OpenSpec.upto woutLooksSpec)) woutLooksUptoCard

/-- THE SECOND FORM's CARD OF 'headgatelaw20.WoutOne'. -/
def woutOneUptoCard : Claim7 := { stood := { row := woutOneUptoRow, standIns := [], harness := (true, "e541b55d5478496cd7009bb3082733d7549a8586273242a87874fb405c89351d"), looks := false }, kinds := [], alts := [], laidByText := true, laidKinds := [.data], laidTests := true, laidLooks := .later }
def WoutOneUptoCardSaid : Prop := Claim7.holds Tryd.pinned (.plain (OpenSpec.upto woutOneSpec)) woutOneUptoCard

/-- THE SECOND FORM's CARD OF 'headgatelaw20.WoutKnown'. -/
def woutKnownUptoCard : Claim7 := { stood := { row := woutKnownUptoRow, standIns := [], harness := (true, "e541b55d5478496cd7009bb3082733d7549a8586273242a87874fb405c89351d"), looks := false }, kinds := [], alts := [], laidByText := true, laidKinds := [.data], laidTests := true, laidLooks := .later }
def WoutKnownUptoCardSaid : Prop := Claim7.holds Tryd.pinned (.plain (OpenSpec.upto woutKnownSpec)) woutKnownUptoCard
end Rows
end Go.Proofs.YtaklhokabnjjcaaDoor
