/- What the listed variable reads as, for the walks. Proved of the given row's own list; no condition. -/
import Derived.Test.YtompoghbdpfdjaaDoorRows
import Derived.Test.YtompoghbdpfdjaaDoorM1
import Derived.ProofKit
import Derived.LaidMore
import Derived.OpenShut
import Derived.Stop.Joined
namespace Go.Proofs.YtompoghbdpfdjaaDoor
open Go.ChangeShapes Go.WideShapes Go.ChangeAt Go.RowKit

def theLaid {H : Type} : List (String × DataW H) := [("math/bits.deBruijn32tab", Rows.laid_math_bits_deBruijn32tab)]
theorem gTab : Tryd.prog.globalNamed "math/bits.deBruijn32tab" = some 0 := by kernel_rfl
theorem tTab : (Tryd.prog.globals[0]?).map (·.type) = some 64 := by kernel_rfl

/-- The door's own heap meets the condition. -/
theorem door_met (os : Os) (args : Array Value) : laidMetH Tryd.prog theLaid ((World.doorLaid Tryd.prog 400 os).forCall (fun _ _ => 0) ⟨#[], args, []⟩).memory :=
  laidMetH_of_parts3 (fuel := 8) (laidMet_of_run' 8 (by kernel_rfl) (by kernel_rfl)) (by kernel_rfl) (by kernel_rfl)

theorem laid_list {H : Type} : (Rows.laid_math_bits_deBruijn32tab : DataW H) = .agg (Lib.deBruijn32tab.map fun n : Nat => .lit (.int .u8 (n : Int))) := rfl
/-- What the condition gives the walks. -/
theorem of_laid {W : World} (h : laidMetH Tryd.prog theLaid W) : GC W := by
  rw [MakeChecks.laidMetH_plain _ _ _ (by kernel_rfl)] at h
  obtain ⟨ps, ⟨g0, t0, cs0, f0, p0, q0, hg0, ht0, hv0, hd0, _⟩, _, _⟩ := h
  obtain rfl := Option.some.inj (gTab.symm.trans hg0)
  obtain rfl := Option.some.inj (tTab.symm.trans ht0)
  obtain ⟨xs, m, _, hx, hn, hlen, hf⟩ := DataW.trod_array Tryd.underlying64 hd0
  have c64 : Tryd.prog.cellsOf 64 = 32 := by kernel_rfl
  have c5 : Tryd.prog.cellsOf 5 = 1 := by kernel_rfl
  rw [c64] at hn
  obtain ⟨l⟩ := cs0
  simp only at hn hf
  intro j hj
  have hj2 : j < 32 := hj
  have h1 := hf j hj2
  rw [c5, Nat.mul_one] at h1
  have hjl : j < l.length := by omega
  have hd : (l.drop j).take 1 = [l[j]] := by
    rw [List.drop_eq_getElem_cons hjl]
    rfl
  rw [hd] at h1
  rw [laid_list] at hx
  simp only [Prod.mk.injEq, DataW.agg.injEq] at hx
  have h2 : (xs.map (·.1))[j]? = some (.lit (.int .u8 ((Lib.deBruijn32tab.getD j 0 : Nat) : Int))) := by
    rw [← hx.1, List.getElem?_map, List.getElem?_eq_getElem hj]
    simp [List.getD_eq_getElem?_getD, List.getElem?_eq_getElem hj]
  rw [List.getElem?_map] at h2
  obtain ⟨y, hy, hy2⟩ := Option.map_eq_some_iff.1 h2
  rw [hy] at h1
  obtain ⟨a, e1, e2, _⟩ := DataW.trod_int Tryd.underlying5 h1
  have g := World.var?_cell hg0 hv0 j
  have e3 : l[j] = .int .u8 a := by simpa using e1
  have e4 : a = ((Lib.deBruijn32tab.getD j 0 : Nat) : Int) := by
    rw [e2] at hy2; simpa using hy2
  rw [e4] at e3
  rw [← e3]
  simpa [List.getElem?_eq_getElem hjl] using g
end Go.Proofs.YtompoghbdpfdjaaDoor
