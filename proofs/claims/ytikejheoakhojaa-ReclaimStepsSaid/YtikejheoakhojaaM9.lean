/- reclaim.Check's printed function in closed form. Conditions: enough rounds. -/
import Derived.Test.YtikejheoakhojaaM8
import Derived.Test.YtikejheoakhojaaPAx3
namespace Go.Proofs.Ytikejheoakhojaa.PA
open Go.RowKit Go.Proofs.YtikejheoakhojaaW.PrintWords Go.Proofs.YtikejheoakhojaaW.PrintLast
set_option linter.unusedVariables false
set_option linter.unusedSimpArgs false
theorem rd_nat (l : List Int) (j : Nat) (h : j < l.length) : rd l (j : Int) = l[j] := by
  simp [rd, List.getD_eq_getElem?_getD, List.getElem?_eq_getElem h]
theorem in_l0 (lo hi : Int) (l : List Int) (hl : l.length ≤ 1000000) : ∀ (n j k : Nat), j + n = l.length → n + 1 ≤ k → reclaim_in.l0 k lo hi l (l.length : Int) (j : Int) = some ((l.drop j).all (inB lo hi)) := by
  intro n
  induction n with
  | zero =>
    intro j k hj hk
    obtain ⟨k, rfl⟩ : ∃ m, k = m + 1 := ⟨k - 1, by omega⟩
    simp only [reclaim_in.l0]
    rw [if_neg (by omega), List.drop_of_length_le (by omega)]
    rfl
  | succ n ih =>
    intro j k hj hk
    obtain ⟨k, rfl⟩ : ∃ m, k = m + 1 := ⟨k - 1, by omega⟩
    have hlt : j < l.length := by omega
    have hw : wrap64 ((j : Int) + 1) = ((j + 1 : Nat) : Int) := by unfold wrap64; omega
    simp only [reclaim_in.l0]
    rw [if_pos (by omega), if_pos (by omega), if_pos (by omega), rd_nat l j hlt, hw, ih (j + 1) k (by omega) (by omega), List.drop_eq_getElem_cons hlt, List.all_cons]
    by_cases h1 : l[j] < lo
    · rw [if_pos h1, show inB lo hi l[j] = false by simp [inB]; omega]; rfl
    · rw [if_neg h1]
      by_cases h2 : l[j] > hi
      · rw [if_pos h2, show inB lo hi l[j] = false by simp [inB]; omega]; rfl
      · rw [if_neg h2, show inB lo hi l[j] = true by simp [inB]; omega]; rfl
theorem in_f (lo hi : Int) (l : List Int) (hl : l.length ≤ 1000000) (k : Nat) (hk : l.length + 2 ≤ k) : reclaim_in.f k lo hi l = some (l.all (inB lo hi)) :=
  in_l0 lo hi l hl l.length 0 k (by omega) (by omega)
theorem chk_f (k : Nat) (hk : 20 ≤ k) (a0 a1 a2 a3 : Int) (a4 : Bool) (a5 a6 a7 a8 : Int) (a9 : Bool) (a10 a11 a12 a13 a14 : Int) :
    reclaim_Check.f k a0 a1 a2 a3 a4 a5 a6 a7 a8 a9 a10 a11 a12 a13 a14 = some (chkE ⟨a0, a1, a2, a3, a4, a5, a6, a7, a8, a9, a10, a11, a12, a13, a14⟩) := by
  obtain ⟨k, rfl⟩ : ∃ m, k = m + 2 := ⟨k - 2, by omega⟩
  have j1 : ∀ b, reclaim_Check.j1 (k + 1) b a0 a1 a2 a3 a4 a5 a6 a7 a8 a9 a10 a11 a12 a13 a14 = some (if b = true then 2 else if a9 = true ∧ a7 = 0 then 3 else 0) := by
    intro b
    rw [reclaim_Check.j1]
    cases b <;> cases a9 <;> by_cases h : a7 = 0 <;> simp [h]
  have j0 : ∀ b, reclaim_Check.j0 (k + 2) b a0 a1 a2 a3 a4 a5 a6 a7 a8 a9 a10 a11 a12 a13 a14 =
      some (if b = true ∨ ¬ ((inB 1 16 a11 && inB 0 a11 a10 && inB 0 32 a12 && inB 0 32 a13) = true) then 2 else if a9 = true ∧ a7 = 0 then 3 else 0) := by
    intro b
    rw [show k + 2 = (k + 1) + 1 from rfl, reclaim_Check.j0]
    cases b
    · rw [if_neg (by simp), in_f _ _ _ (by simp) _ (by simp; omega), in_f _ _ _ (by simp) _ (by simp; omega), in_f _ _ _ (by simp) _ (by simp; omega)]
      simp only [Option.bind_some, j1, List.all_cons, List.all_nil, Bool.and_true]
      cases inB 1 16 a11 <;> cases inB 0 a11 a10 <;> cases inB 0 32 a12 <;> cases inB 0 32 a13 <;> simp
    · simp
  unfold reclaim_Check.f
  rw [in_f _ _ _ (by simp) _ (by simp; omega)]
  simp only [Option.bind_some, List.all_cons, List.all_nil, Bool.and_true, j0]
  unfold chkE chkB
  simp only
  have e1 : decide (0 ≤ a1) = !decide (a1 < 0) := by by_cases h : a1 < 0 <;> simp [h] <;> omega
  have e2 : decide (a1 < a2) = !decide (a2 ≤ a1) := by by_cases h : a2 ≤ a1 <;> simp [h] <;> omega
  have e3 : decide (a2 < a3) = !decide (a3 ≤ a2) := by by_cases h : a3 ≤ a2 <;> simp [h] <;> omega
  have e4 : decide (a3 ≤ 256) = !decide (a3 > 256) := by by_cases h : a3 > 256 <;> simp [h] <;> omega
  rw [e1, e2, e3, e4]
  generalize inB 0 256 a0 = b0
  generalize inB 0 256 a5 = b5
  generalize inB 0 256 a6 = b6
  generalize inB 0 256 a7 = b7
  generalize inB 0 256 a8 = b8
  generalize inB 0 256 a14 = b14
  generalize inB 1 16 a11 = b11
  generalize inB 0 a11 a10 = b10
  generalize inB 0 32 a12 = b12
  generalize inB 0 32 a13 = b13
  generalize (if a9 = true ∧ a7 = 0 then (3 : Int) else 0) = z
  have hA : (b0 && (b5 && (b6 && (b7 && (b8 && b14))))) = (b0 && b5 && b6 && b7 && b8 && b14) := by simp [Bool.and_assoc]
  rw [hA]
  generalize (b0 && b5 && b6 && b7 && b8 && b14) = A
  have hB : (A && !decide (a1 < 0) && !decide (a2 ≤ a1) && !decide (a3 ≤ a2) && !decide (a3 > 256) && b11 && b10 && b12 && b13) = (A && !decide (a1 < 0) && !decide (a2 ≤ a1) && !decide (a3 ≤ a2) && !decide (a3 > 256) && (b11 && b10 && b12 && b13)) := by simp [Bool.and_assoc]
  rw [hB]
  generalize (b11 && b10 && b12 && b13) = B
  cases A
  · simp
  · by_cases h1 : a1 < 0
    · simp [h1]
    · by_cases h2 : a2 ≤ a1
      · simp [h1, h2]
      · by_cases h3 : a3 ≤ a2
        · simp [h1, h2, h3]
        · cases B <;> by_cases h4 : a3 > 256 <;> simp [h1, h2, h3, h4]
end Go.Proofs.Ytikejheoakhojaa.PA
