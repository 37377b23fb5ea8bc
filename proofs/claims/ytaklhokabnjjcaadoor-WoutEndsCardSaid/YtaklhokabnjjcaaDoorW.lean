/- Common words of the walks of this seat: facts on cells behind calls, allocations and stores; slices that came in; arithmetic of Mod. Proved over any program; no condition. -/
import Derived.WalkKit
import Derived.WalkLawsBesides
import Derived.WalkSpells
import Derived.BigQuiet
import Derived.Deep.QuietTactic
import Derived.Deep.RegionHeld3
import Derived.OpenShut
namespace Go.Proofs.YtaklhokabnjjcaaDoor
open Go.RowKit

theorem ret_int {k : IntKind} {a b : Int} (h : a = b) : Ending.returned (.int k a) = .returned (.int k b) := by rw [h]
theorem ret_bool {a b : Bool} (h : a = b) : Ending.returned (.bool a) = .returned (.bool b) := by rw [h]
theorem ret_val {a b : Value} (h : a = b) : Ending.returned a = .returned b := by rw [h]
theorem hid {p : Prop} (h : p) : Hid p := h
theorem bt {w w1 w2 : World} (h : Below w.heap.size w w1) (k : Below w1.heap.size w1 w2) : Below w.heap.size w w2 := h.trans (k.mono h.size)
theorem bcell {W w1 : World} (hb : Below W.heap.size W w1) : (∀ b o, b < W.heap.size → w1.cell? ⟨b, o, none⟩ = W.cell? ⟨b, o, none⟩) ∧ (∀ b o, b < W.heap.size → w1.frozen? ⟨b, o, none⟩ = W.frozen? ⟨b, o, none⟩) :=
  ⟨fun b o h => hb.cell (p := ⟨b, o, none⟩) h, fun b o h => hb.frozen (p := ⟨b, o, none⟩) h⟩
theorem kc {w w1 : World} {a : Addr} {v : Value} (hb : Below w.heap.size w w1) (h : w.cell? a = some v) : w1.cell? a = some v := by
  rw [hb.cell (World.block_lt_of_cell? w _ h)]; exact h
theorem kf {w w1 : World} {a : Addr} {v : Value} (hb : Below w.heap.size w w1) (h : w.cell? a = some v) (hf : w.frozen? a = false) : w1.frozen? a = false := by
  rw [hb.frozen (World.block_lt_of_cell? w _ h)]; exact hf
theorem ka {w : World} {a : Addr} {v : Value} (h : w.cell? a = some v) (o : Obj) : (w.alloc o).cell? a = some v := kc ((Below.refl _ _).alloc (Nat.le_refl _) o) h
theorem fa {w : World} {a : Addr} {v : Value} (h : w.cell? a = some v) (hf : w.frozen? a = false) (o : Obj) : (w.alloc o).frozen? a = false := kf ((Below.refl _ _).alloc (Nat.le_refl _) o) h hf
theorem so1 {w : World} {a : Addr} {u v : Value} (h : w.cell? a = some v) : (w.setCell a u).cell? a = some u := World.cell?_setCell_same _ _ _ h
theorem so {w : World} {a b : Addr} {u v : Value} (h : w.cell? a = some v) (hn : a ≠ b) : (w.setCell b u).cell? a = some v := by rw [World.cell?_setCell_other w b a u (fun e => hn e.symm)]; exact h

theorem mod_neg {n m : Int} (_h : n < 0) (m0 : 1 ≤ m) : (n.tmod m < 0 → n.tmod m + m = n % m) ∧ (0 ≤ n.tmod m → n.tmod m = n % m) ∧ -m < n.tmod m := by
  have e := Int.emod_nonneg n (show m ≠ 0 by omega)
  have e2 := Int.emod_lt_of_pos n (show 0 < m by omega)
  have hd : n.tmod m % m = n % m := by
    have h1 := Int.tmod_add_mul_tdiv n m
    have h2 : (n.tmod m + m * n.tdiv m) % m = n.tmod m % m := Int.add_mul_emod_self_left _ _ _
    rw [h1] at h2
    exact h2.symm
  have hb : -m < n.tmod m := by
    have := Int.lt_tmod_of_pos n (show 0 < m by omega)
    omega
  have hu : n.tmod m < m := Int.tmod_lt_of_pos n (show 0 < m by omega)
  refine ⟨fun hn => ?_, fun hn => ?_, hb⟩
  · have : (n.tmod m + m) % m = n % m := by rw [Int.add_emod_right]; exact hd
    rw [← this, Int.emod_eq_of_lt (by omega) (by omega)]
  · rw [← hd, Int.emod_eq_of_lt (by omega) (by omega)]

/-- A slice of integers that came in: nil, or a row of 'cap' cells of which the first 'len' are its elements. -/
def IsRow (k : IntKind) (w : World) (a : Option Addr) (len cap : Nat) (zs : List Int) : Prop :=
  (a = none ∧ len = 0 ∧ cap = 0 ∧ zs = []) ∨
  ∃ x, a = some x ∧ len ≤ cap ∧ cap ≤ maxLen ∧ zs.length = cap ∧ (∀ i, i < zs.length → w.cell? (x.add i) = some (.int k (zs.getD i 0))) ∧ ∀ n ∈ zs, (Lit.int k n).wf = true
end Go.Proofs.YtaklhokabnjjcaaDoor
