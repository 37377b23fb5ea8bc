/- What the printed functions of chapter 32 come to, in closed form. Conditions: enough rounds; lists of at most 1000000 numbers. -/
import Derived.Test.YtfjfmhkifaiakaaPAx5
namespace Go.Proofs.Ytfjfmhkifaiakaa.PA
open Go.RowKit Go.Proofs.YtfjfmhkifaiakaaW.PrintWords Go.Proofs.YtfjfmhkifaiakaaW.PrintLast
set_option linter.unusedVariables false
set_option linter.unusedSimpArgs false

def chkE (lo md hi : Int) : Int := if lo < 0 ∨ 256 < hi then 2 else if lo ≥ md ∨ md ≥ hi then 8 else 0
def badN (x : Int) : Bool := decide (x < 0) || decide (256 < x)
def askE (lo md hi : Int) (l : List Int) : Int := if chkE lo md hi = 0 then (if 400 < l.length then 4 else if l.any badN then 2 else 0) else chkE lo md hi

theorem pchk (k : Nat) (lo md hi : Int) : pressure_Check.f (k + 1) lo md hi = some (chkE lo md hi) := by
  unfold pressure_Check.f chkE
  by_cases h1 : lo < 0
  · rw [if_pos h1, if_pos (Or.inl h1)]; simp [pressure_Check.j0]
  · by_cases h2 : 256 < hi
    · rw [if_neg h1, if_pos (Or.inr h2)]; simp [pressure_Check.j0, h2]
    · rw [if_neg h1, if_neg (by omega)]
      have e : decide (hi > 256) = false := by simpa using h2
      rw [e]
      simp only [pressure_Check.j0]
      rw [if_neg (by simp)]
      by_cases h3 : lo ≥ md
      · rw [if_pos h3, if_pos (Or.inl h3)]
      · rw [if_neg h3]
        by_cases h4 : md ≥ hi
        · rw [if_pos h4, if_pos (Or.inr h4)]
        · rw [if_neg h4, if_neg (by omega)]
theorem rchk (k : Nat) (lo md hi : Int) : headgateref32_Check.f (k + 1) lo md hi = some (chkE lo md hi) := by
  rw [← pchk k]
  unfold headgateref32_Check.f pressure_Check.f
  simp only [headgateref32_Check.j0, pressure_Check.j0]

theorem rd_nat (l : List Int) (j : Nat) (h : j < l.length) : rd l (j : Int) = l[j] := by
  simp [rd, List.getD_eq_getElem?_getD, List.getElem?_eq_getElem h]
theorem w64s {j n : Nat} (h : j < n) (hn : n ≤ 1000000) : wrap64 ((j : Int) + 1) = ((j + 1 : Nat) : Int) := by unfold wrap64; omega

theorem pask_l0 (l : List Int) (hl : l.length ≤ 1000000) : ∀ (n j k : Nat), j + n = l.length → n + 1 ≤ k → pressure_asked.l0 k l (l.length : Int) (j : Int) = some (if (l.drop j).any badN then 2 else 0) := by
  intro n
  induction n with
  | zero =>
    intro j k hj hk
    obtain ⟨k, rfl⟩ : ∃ m, k = m + 1 := ⟨k - 1, by omega⟩
    simp only [pressure_asked.l0]
    rw [if_neg (by omega), List.drop_of_length_le (by omega)]
    simp
  | succ n ih =>
    intro j k hj hk
    obtain ⟨k, rfl⟩ : ∃ m, k = m + 1 := ⟨k - 1, by omega⟩
    have hlt : j < l.length := by omega
    simp only [pressure_asked.l0]
    rw [if_pos (by omega), if_pos (by omega), if_pos (by omega), rd_nat l j hlt, w64s hlt hl, ih (j + 1) k (by omega) (by omega), List.drop_eq_getElem_cons hlt, List.any_cons]
    by_cases h1 : l[j] < 0
    · rw [if_pos h1]; simp [badN, h1]
    · rw [if_neg h1]
      by_cases h2 : l[j] > 256
      · rw [if_pos h2]; simp [badN, h2]
      · rw [if_neg h2]
        have e : badN l[j] = false := by simp [badN]; omega
        rw [e, Bool.false_or]
theorem pask (l : List Int) (hl : l.length ≤ 1000000) (lo md hi : Int) (k : Nat) (hk : l.length + 2 ≤ k) : pressure_asked.f k lo md hi l = some (askE lo md hi l) := by
  obtain ⟨k, rfl⟩ : ∃ m, k = m + 1 := ⟨k - 1, by omega⟩
  unfold pressure_asked.f askE
  rw [pchk]
  simp only [Option.bind_some]
  by_cases h : chkE lo md hi = 0
  · rw [if_pos h, if_pos h]
    by_cases h4 : 400 < l.length
    · rw [if_pos (by omega), if_pos h4]
    · rw [if_neg (by omega), if_neg h4]
      have := pask_l0 l hl l.length 0 (k + 1) (by omega) (by omega)
      simpa using this
  · rw [if_neg h, if_neg h]

theorem rask_e (l : List Int) (e : Int) (he : e ≠ 0) (x : Int) (k : Nat) : headgateref32_asks.l0 (k + 2) l e x = some e := by
  have e1 : (e == 0) = false := by simp [he]
  simp only [headgateref32_asks.l0, headgateref32_asks.j3, e1]
  split <;> rfl
theorem rask_l0 (l : List Int) (hl : l.length ≤ 1000000) : ∀ (n j k : Nat), j + n = l.length → 2 * n + 4 ≤ k → headgateref32_asks.l0 k l 0 (j : Int) = some (if (l.drop j).any badN then 2 else 0) := by
  intro n
  induction n with
  | zero =>
    intro j k hj hk
    obtain ⟨k, rfl⟩ : ∃ m, k = m + 2 := ⟨k - 2, by omega⟩
    simp only [headgateref32_asks.l0, headgateref32_asks.j3]
    rw [if_neg (by omega), List.drop_of_length_le (by omega)]
    simp
  | succ n ih =>
    intro j k hj hk
    obtain ⟨k, rfl⟩ : ∃ m, k = m + 4 := ⟨k - 4, by omega⟩
    have hlt : j < l.length := by omega
    have step : headgateref32_asks.l0 (k + 4) l 0 (j : Int) = if rd l (j : Int) < 0 then headgateref32_asks.l0 (k + 2) l 2 (wrap64 ((j : Int) + 1)) else if rd l (j : Int) > 256 then headgateref32_asks.l0 (k + 2) l 2 (wrap64 ((j : Int) + 1)) else headgateref32_asks.l0 (k + 2) l 0 (wrap64 ((j : Int) + 1)) := by
      rw [show k + 4 = (k + 3) + 1 from rfl, headgateref32_asks.l0, if_pos (by omega), show k + 3 = (k + 2) + 1 from rfl, headgateref32_asks.j3, if_pos (by rfl), if_pos (by omega), if_pos (by omega)]
    rw [step, rd_nat l j hlt, w64s hlt hl, rask_e l 2 (by omega), ih (j + 1) (k + 2) (by omega) (by omega), List.drop_eq_getElem_cons hlt, List.any_cons]
    by_cases h1 : l[j] < 0
    · rw [if_pos h1]; simp [badN, h1]
    · rw [if_neg h1]
      by_cases h2 : l[j] > 256
      · rw [if_pos h2]; simp [badN, h2]
      · rw [if_neg h2]
        have e : badN l[j] = false := by simp [badN]; omega
        rw [e, Bool.false_or]
theorem rask (l : List Int) (hl : l.length ≤ 1000000) (lo md hi : Int) (k : Nat) (hk : 2 * l.length + 8 ≤ k) : headgateref32_asks.f k lo md hi l = some (askE lo md hi l) := by
  obtain ⟨k, rfl⟩ : ∃ m, k = m + 4 := ⟨k - 4, by omega⟩
  unfold headgateref32_asks.f askE
  rw [rchk]
  simp only [Option.bind_some]
  by_cases h : chkE lo md hi = 0
  · rw [if_pos h, if_pos h, h]
    by_cases h4 : 400 < l.length
    · have e : decide ((l.length : Int) > 400) = true := by simp; omega
      rw [if_pos h4, e, show k + 4 = (k + 3) + 1 from rfl, headgateref32_asks.j0, if_pos rfl, show k + 3 = (k + 2) + 1 from rfl, headgateref32_asks.j1, rask_e l 4 (by omega)]
    · have e : decide ((l.length : Int) > 400) = false := by simp; omega
      rw [if_neg h4, e, show k + 4 = (k + 3) + 1 from rfl, headgateref32_asks.j0, if_neg (by simp), show k + 3 = (k + 2) + 1 from rfl, headgateref32_asks.j1]
      have := rask_l0 l hl l.length 0 (k + 2) (by omega) (by omega)
      simpa using this
  · rw [if_neg h, if_neg h, show k + 4 = (k + 3) + 1 from rfl, headgateref32_asks.j0, if_neg (by simp), show k + 3 = (k + 2) + 1 from rfl, headgateref32_asks.j1, rask_e l _ h]

theorem plev (lo md hi fr : Int) : pressure_level.f lo md hi fr = some (lvF lo md hi fr) := by
  unfold pressure_level.f lvF
  (repeat' split) <;> rfl
theorem rlev (lo md hi fr : Int) : headgateref32_level.f lo md hi fr = some (lvF lo md hi fr) := plev lo md hi fr
theorem pnext (lo md hi : Int) (a : Bool) (fr : Int) : pressure_next.f lo md hi a fr = some (awN md hi a fr) := by
  unfold pressure_next.f awN
  by_cases h1 : fr < md
  · simp [h1]
  · cases a <;> simp [h1]
theorem rnext (lo md hi : Int) (a : Bool) (fr : Int) : headgateref32_next.f lo md hi a fr = some (awN md hi a fr) := pnext lo md hi a fr

def levE (lo md hi fr : Int) : Int × Int := if askE lo md hi [fr] = 0 then (lvF lo md hi fr, 0) else (0, askE lo md hi [fr])
def nexE (lo md hi : Int) (a : Bool) (fr : Int) : Bool × Int := if askE lo md hi [fr] = 0 then (awN md hi a fr, 0) else (false, askE lo md hi [fr])
def misE (lo md hi : Int) (a : Bool) (fr : Int) : Int × Int := if (nexE lo md hi a fr).2 = 0 then (if (nexE lo md hi a fr).1 = true then (wrap64 (hi - fr), 0) else (0, (nexE lo md hi a fr).2)) else (0, (nexE lo md hi a fr).2)
theorem pLevel (lo md hi fr : Int) (k : Nat) (hk : 10 ≤ k) : pressure_Level.f k lo md hi fr = some (levE lo md hi fr) := by
  unfold pressure_Level.f levE
  rw [pask [fr] (by simp) lo md hi k (by simp; omega), plev]
  simp only [Option.bind_some]
  split <;> rfl
theorem rLevel (lo md hi fr : Int) (k : Nat) (hk : 10 ≤ k) : headgateref32_Level.f k lo md hi fr = some (levE lo md hi fr) := by
  unfold headgateref32_Level.f levE
  rw [rask [fr] (by simp) lo md hi k (by simp; omega), rlev]
  simp only [Option.bind_some]
  split <;> rfl
theorem pNext (lo md hi : Int) (a : Bool) (fr : Int) (k : Nat) (hk : 10 ≤ k) : pressure_Next.f k lo md hi a fr = some (nexE lo md hi a fr) := by
  unfold pressure_Next.f nexE
  rw [pask [fr] (by simp) lo md hi k (by simp; omega), pnext]
  simp only [Option.bind_some]
  split <;> rfl
theorem rNext (lo md hi : Int) (a : Bool) (fr : Int) (k : Nat) (hk : 10 ≤ k) : headgateref32_Next.f k lo md hi a fr = some (nexE lo md hi a fr) := by
  unfold headgateref32_Next.f nexE
  rw [rask [fr] (by simp) lo md hi k (by simp; omega), rnext]
  simp only [Option.bind_some]
  split <;> rfl
theorem pMissing (lo md hi : Int) (a : Bool) (fr : Int) (k : Nat) (hk : 10 ≤ k) : pressure_Missing.f k lo md hi a fr = some (misE lo md hi a fr) := by
  unfold pressure_Missing.f misE
  rw [pNext _ _ _ _ _ k hk]
  simp only [Option.bind_some]
  (repeat' split) <;> rfl
theorem rMissing (lo md hi : Int) (a : Bool) (fr : Int) (k : Nat) (hk : 10 ≤ k) : headgateref32_Missing.f k lo md hi a fr = some (misE lo md hi a fr) := by
  unfold headgateref32_Missing.f misE
  rw [rNext _ _ _ _ _ k hk]
  simp only [Option.bind_some]
  (repeat' split) <;> rfl
theorem awake_20 : headgatelaw32_awake.f 60 = some true := by decide +kernel
theorem awake_k (k : Nat) (hk : 60 ≤ k) : headgatelaw32_awake.f k = some true := at_rounds headgatelaw32_awake.mono hk awake_20

theorem levels_pure (lo md hi : Int) (a : Bool) (fr : Int) : headgatelaw32_PressureLevels.f 100 lo md hi a fr = some true := by
  unfold headgatelaw32_PressureLevels.f
  rw [pLevel _ _ _ _ _ (by omega), rLevel _ _ _ _ _ (by omega), pchk, rchk]
  simp only [Option.bind_some, if_true]
  rw [show ((levE lo md hi fr).2 != (levE lo md hi fr).2) = false by simp]
  simp only [headgatelaw32_PressureLevels.j0]
  rw [pNext _ _ _ _ _ _ (by omega), rNext _ _ _ _ _ _ (by omega), pMissing _ _ _ _ _ _ (by omega), rMissing _ _ _ _ _ _ (by omega), awake_k _ (by omega)]
  simp
end Go.Proofs.Ytfjfmhkifaiakaa.PA
