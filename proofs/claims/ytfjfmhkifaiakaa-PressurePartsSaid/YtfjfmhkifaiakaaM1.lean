/- The contract of pressure.level: its three tests are closures over the marks and the number. Proved for all values; no condition. -/
import Derived.Test.YtfjfmhkifaiakaaRows
import Derived.WalkKit
import Derived.WalkLawsBesides
import Derived.WalkSpells
import Derived.BigQuiet
import Derived.Deep.QuietTactic
import Derived.Laws.EntriesVeiled
import Derived.Outline
namespace Go.Proofs.Ytfjfmhkifaiakaa
open Go.RowKit
set_option linter.unusedVariables false
set_option linter.unusedSimpArgs false

structure Hid (p : Prop) : Prop where
  out : p
theorem hid {p : Prop} (h : p) : Hid p := ⟨h⟩
theorem ret_int {k : IntKind} {a b : Int} (h : a = b) : Ending.returned (.int k a) = .returned (.int k b) := by rw [h]
def lvF (lo md hi fr : Int) : Int := if fr ≥ hi then 0 else if fr ≥ md then 1 else if fr > lo then 2 else 3

theorem test1 (F M : Nat) (hi fr : Int) (w : World) (cf : w.cell? ⟨F, 0, none⟩ = some (.int .i64 fr)) (c2 : w.cell? ⟨M, 2, none⟩ = some (.int .i64 hi)) :
    Calls Try.prog 43 #[.pointer (some ⟨F, 0, none⟩), .pointer (some ⟨M, 0, none⟩)] w fun e w' => e = .returned (.bool (decide (hi ≤ fr))) ∧ w = w' := by
  go_enter Try.func43, Try.ntmps43
  go_wp2
  go_ret
  exact ⟨rfl, rfl⟩
theorem test2 (F M : Nat) (md fr : Int) (w : World) (cf : w.cell? ⟨F, 0, none⟩ = some (.int .i64 fr)) (c2 : w.cell? ⟨M, 1, none⟩ = some (.int .i64 md)) :
    Calls Try.prog 44 #[.pointer (some ⟨F, 0, none⟩), .pointer (some ⟨M, 0, none⟩)] w fun e w' => e = .returned (.bool (decide (md ≤ fr))) ∧ w = w' := by
  go_enter Try.func44, Try.ntmps44
  go_wp2
  go_ret
  exact ⟨rfl, rfl⟩
theorem test3 (F M : Nat) (lo fr : Int) (w : World) (cf : w.cell? ⟨F, 0, none⟩ = some (.int .i64 fr)) (c2 : w.cell? ⟨M, 0, none⟩ = some (.int .i64 lo)) :
    Calls Try.prog 45 #[.pointer (some ⟨F, 0, none⟩), .pointer (some ⟨M, 0, none⟩)] w fun e w' => e = .returned (.bool (decide (lo < fr))) ∧ w = w' := by
  go_enter Try.func45, Try.ntmps45
  go_wp2
  go_ret
  exact ⟨rfl, rfl⟩
theorem level_any (lo md hi fr : Int) (w : World) :
    Calls Try.prog 36 #[.agg #[.int .i64 lo, .int .i64 md, .int .i64 hi], .int .i64 fr] w fun e w' => e = .returned (.int .i64 (lvF lo md hi fr)) ∧ Below w.heap.size w w' := by
  have i0 : ∀ (w : World) (x y z : Value), (Instr.index 65 (.agg #[x, y, z]) (.int .i64 0)).run Try.prog w = .ok x w := fun _ _ _ _ => by kernel_rfl
  have i1 : ∀ (w : World) (x y z : Value), (Instr.index 65 (.agg #[x, y, z]) (.int .i64 1)).run Try.prog w = .ok y w := fun _ _ _ _ => by kernel_rfl
  have i2 : ∀ (w : World) (x y z : Value), (Instr.index 65 (.agg #[x, y, z]) (.int .i64 2)).run Try.prog w = .ok z w := fun _ _ _ _ => by kernel_rfl
  go_enter Try.func36, Try.ntmps36
  go_wp2_with fail
  go_loopw [13] (fun i wr => ∃ k : Int, (k = 0 ∨ k = 1 ∨ k = 2 ∨ k = 3) ∧ i = .int .i64 k ∧ (1 ≤ k → ¬ hi ≤ fr) ∧ (2 ≤ k → ¬ md ≤ fr) ∧ (3 ≤ k → ¬ lo < fr) ∧ wr.cell? ⟨w.heap.size, 0, none⟩ = some (.int .i64 lo) ∧ wr.cell? ⟨w.heap.size, 1, none⟩ = some (.int .i64 md) ∧ wr.cell? ⟨w.heap.size, 2, none⟩ = some (.int .i64 hi) ∧ wr.cell? ⟨w.heap.size + 1, 0, none⟩ = some (.int .i64 fr) ∧ Below w.heap.size w wr) (fun i _ => 3 - (intOf i).toNat)
  case atStart =>
    refine ⟨0, by omega, rfl, fun h => absurd h (by omega), fun h => absurd h (by omega), fun h => absurd h (by omega), by simp [go_sem], by simp [go_sem], by simp [go_sem], by simp [go_sem], ?_⟩
    repeat (first | exact Below.refl _ _ | refine Below.alloc ?_ (by simp <;> omega) _)
  case round =>
    obtain ⟨k, hk, rfl, h1, h2, h3, c0, c1, c2, cf, hb⟩ := hrel
    rcases hk with rfl | rfl | rfl | rfl
    · clear h1 h2 h3
      by_cases h : hi ≤ fr
      · have HR := hid (show lvF lo md hi fr = 0 by unfold lvF; rw [if_pos h])
        have hd : decide (hi ≤ fr) = true := by simpa using h
        clear h
        go_wp2_with (refine (test1 _ _ _ _ _ cf c2).mono ?_; rintro e w' ⟨rfl, rfl⟩)
        go_ret
        exact ⟨ret_int HR.out.symm, hb⟩
      · have hd : decide (hi ≤ fr) = false := by simpa using h
        have H := hid h
        clear h
        go_wp2_with (refine (test1 _ _ _ _ _ cf c2).mono ?_; rintro e w' ⟨rfl, rfl⟩)
        exact ⟨⟨1, by omega, rfl, fun _ => by have := H.out; omega, fun h => absurd h (by omega), fun h => absurd h (by omega), c0, c1, c2, cf, hb⟩, by simp [intOf]⟩
    · have H1 := hid (h1 (by omega))
      clear h1 h2 h3
      by_cases h : md ≤ fr
      · have HR := hid (show lvF lo md hi fr = 1 by unfold lvF; rw [if_neg (by have := H1.out; omega), if_pos h])
        have hd : decide (md ≤ fr) = true := by simpa using h
        clear h
        go_wp2_with (refine (test2 _ _ _ _ _ cf c1).mono ?_; rintro e w' ⟨rfl, rfl⟩)
        go_ret
        exact ⟨ret_int HR.out.symm, hb⟩
      · have hd : decide (md ≤ fr) = false := by simpa using h
        have H := hid h
        clear h
        go_wp2_with (refine (test2 _ _ _ _ _ cf c1).mono ?_; rintro e w' ⟨rfl, rfl⟩)
        exact ⟨⟨2, by omega, rfl, fun _ => by have := H1.out; omega, fun _ => by have := H.out; omega, fun h => absurd h (by omega), c0, c1, c2, cf, hb⟩, by simp [intOf]⟩
    · have H1 := hid (h1 (by omega))
      have H2 := hid (h2 (by omega))
      clear h1 h2 h3
      by_cases h : lo < fr
      · have HR := hid (show lvF lo md hi fr = 2 by unfold lvF; rw [if_neg (by have := H1.out; omega), if_neg (by have := H2.out; omega), if_pos h])
        have hd : decide (lo < fr) = true := by simpa using h
        clear h
        go_wp2_with (refine (test3 _ _ _ _ _ cf c0).mono ?_; rintro e w' ⟨rfl, rfl⟩)
        go_ret
        exact ⟨ret_int HR.out.symm, hb⟩
      · have hd : decide (lo < fr) = false := by simpa using h
        have H := hid h
        clear h
        go_wp2_with (refine (test3 _ _ _ _ _ cf c0).mono ?_; rintro e w' ⟨rfl, rfl⟩)
        exact ⟨⟨3, by omega, rfl, fun _ => by have := H1.out; omega, fun _ => by have := H2.out; omega, fun _ => by have := H.out; omega, c0, c1, c2, cf, hb⟩, by simp [intOf]⟩
    · have H1 := hid (h1 (by omega))
      have H2 := hid (h2 (by omega))
      have H3 := hid (h3 (by omega))
      clear h1 h2 h3
      go_wp2_with fail
      go_ret
      exact ⟨ret_int (by unfold lvF; rw [if_neg (by have := H1.out; omega), if_neg (by have := H2.out; omega), if_neg (by have := H3.out; omega)]), hb⟩
end Go.Proofs.Ytfjfmhkifaiakaa
