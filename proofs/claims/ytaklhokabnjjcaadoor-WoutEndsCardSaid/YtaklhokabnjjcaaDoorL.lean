import Derived.Test.YtaklhokabnjjcaaDoorRows
import Derived.Test.YtaklhokabnjjcaaDoorI
import Derived.ProofKit
import Derived.LaidMore
import Derived.OpenShut
import Derived.Stop.Joined
namespace Go.Proofs.YtaklhokabnjjcaaDoor
open Go.ChangeShapes Go.WideShapes Go.ChangeAt Go.RowKit

def theLaid {H : Type} : List (String × DataW H) := [("headgate/headgatelaw20.claim", Rows.laid_headgate_headgatelaw20_claim)]
theorem gClaim : Tryd.prog.globalNamed "headgate/headgatelaw20.claim" = some 0 := by kernel_rfl
theorem tClaim : (Tryd.prog.globals[0]?).map (·.type) = some 37 := by kernel_rfl

/-- The door's own heap meets the condition. -/
theorem door_met (os : Os) (args : Array Value) : laidMetH Tryd.prog theLaid ((World.doorLaid Tryd.prog 400 os).forCall (fun _ _ => 0) ⟨#[], args, []⟩).memory :=
  laidMetH_of_parts3 (fuel := 8) (laidMet_of_run' 8 (by kernel_rfl) (by kernel_rfl)) (by kernel_rfl) (by kernel_rfl)

/-- What the condition gives the walks. -/
theorem of_laid {W : World} (h : laidMetH Tryd.prog theLaid W) : GC W := by
  rw [MakeChecks.laidMetH_plain _ _ _ (by kernel_rfl)] at h
  obtain ⟨ps, ⟨g0, t0, cs0, f0, p0, q0, hg0, ht0, hv0, hd0, _⟩, _, _⟩ := h
  obtain rfl := Option.some.inj (gClaim.symm.trans hg0)
  obtain rfl := Option.some.inj (tClaim.symm.trans ht0)
  obtain ⟨xs, m, _, hx, hn, hlen, hf⟩ := DataW.trod_struct Tryd.underlying37 hd0
  have c37 : Tryd.prog.cellsOf 37 = 2 := by kernel_rfl
  have c3 : Tryd.prog.cellsOf 3 = 1 := by kernel_rfl
  rw [c37] at hn
  have h0 := hf 0 _ rfl
  have h1 := hf 1 _ rfl
  obtain ⟨l⟩ := cs0
  try simp only at hn h0 h1
  match l, hn, xs, hlen, h0, h1, hx with
  | [u0, u1], _, [x0, x1], _, h0, h1, hx =>
    simp only [List.map_cons, List.map_nil, Prod.mk.injEq, Rows.laid_headgate_headgatelaw20_claim, DataW.agg.injEq, List.cons.injEq] at hx
    obtain ⟨⟨hx0, hx1, _⟩, _⟩ := hx
    obtain ⟨a0, e0, r0, _⟩ := DataW.trod_int Tryd.underlying3 (show DataW.trod _ Tryd.prog W 0 _ false m 3 [u0] = some x0 from h0)
    obtain ⟨a1, e1, r1, _⟩ := DataW.trod_int Tryd.underlying3 (show DataW.trod _ Tryd.prog W 0 _ false m 3 [u1] = some x1 from h1)
    have k0 : a0 = 4 := by rw [r0] at hx0; simpa using hx0.symm
    have k1 : a1 = 3 := by rw [r1] at hx1; simpa using hx1.symm
    subst k0 k1
    simp only [List.cons.injEq, and_true] at e0 e1
    subst e0 e1
    have g0 := World.var?_cell hg0 hv0 0
    have g1 := World.var?_cell hg0 hv0 1
    exact ⟨by simpa using g0, by simpa using g1⟩
end Go.Proofs.YtaklhokabnjjcaaDoor
