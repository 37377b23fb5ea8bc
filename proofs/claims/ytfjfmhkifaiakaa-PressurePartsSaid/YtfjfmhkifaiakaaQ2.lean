/- What Run, Spans, Worst and their references come to, in closed form; the histories and marks made of numbers. Conditions: enough rounds; lists of at most 1000000 numbers. -/
import Derived.Test.YtfjfmhkifaiakaaQ
import Derived.Test.YtfjfmhkifaiakaaPAx8
import Derived.Test.YtfjfmhkifaiakaaPAx10
import Derived.Test.YtfjfmhkifaiakaaPAx12
import Derived.Test.YtfjfmhkifaiakaaPAx13
namespace Go.Proofs.Ytfjfmhkifaiakaa.PA
open Go.RowKit Go.Proofs.YtfjfmhkifaiakaaW.PrintWords Go.Proofs.YtfjfmhkifaiakaaW.PrintLast
set_option linter.unusedVariables false
set_option linter.unusedSimpArgs false

def runL (md hi : Int) (l : List Int) : List Bool := (stTo md hi l l.length).map (·.2)
def runE (lo md hi : Int) (l : List Int) : List Bool × Int := if askE lo md hi l = 0 then (runL md hi l, 0) else ([], askE lo md hi l)
theorem rd_opt (l : List Int) (j : Nat) : rd l (j : Int) = l[j]?.getD 0 := by simp [rd]
theorem pRun_l0 (lo md hi : Int) (l : List Int) (hl : l.length ≤ 1000000) : ∀ (n j k : Nat), j + n = l.length → n + 1 ≤ k →
    pressure_Run.l0 k l ((stTo md hi l j).map (·.2)) (awAt md hi l j) (j : Int) lo md hi = some (runL md hi l, 0) := by
  intro n
  induction n with
  | zero =>
    intro j k hj hk
    obtain ⟨k, rfl⟩ : ∃ m, k = m + 1 := ⟨k - 1, by omega⟩
    obtain rfl : j = l.length := by omega
    simp only [pressure_Run.l0]
    rw [if_neg (by omega)]
    rfl
  | succ n ih =>
    intro j k hj hk
    obtain ⟨k, rfl⟩ : ∃ m, k = m + 1 := ⟨k - 1, by omega⟩
    have hlt : j < l.length := by omega
    simp only [pressure_Run.l0]
    rw [if_pos (by omega), if_pos (by omega), pnext]
    simp only [Option.bind_some]
    rw [if_pos (by simp [stTo_len]; omega), w64s hlt hl, rd_opt]
    have h := ih (j + 1) k (by omega) (by omega)
    rw [stTo_succ, List.map_append] at h
    exact h
theorem rRun_l0 : ∀ (k : Nat) (x1 : List Int) (x7 : List Bool) (x8 : Bool) (x9 a b c : Int), headgateref32_Run.l0 k x1 x7 x8 x9 a b c = pressure_Run.l0 k x1 x7 x8 x9 a b c := by
  intro k
  induction k with
  | zero => intros; rfl
  | succ k ih =>
    intro x1 x7 x8 x9 a b c
    simp only [headgateref32_Run.l0, pressure_Run.l0, ih, rnext, pnext]
theorem pRun (lo md hi : Int) (l : List Int) (hl : l.length ≤ 1000000) (k : Nat) (hk : l.length + 2 ≤ k) : pressure_Run.f k lo md hi l = some (runE lo md hi l) := by
  unfold pressure_Run.f runE
  rw [pask l hl lo md hi k hk]
  simp only [Option.bind_some]
  by_cases h : askE lo md hi l = 0
  · rw [if_pos h, if_pos h]
    exact pRun_l0 lo md hi l hl l.length 0 k (by omega) (by omega)
  · rw [if_neg h, if_neg h]
theorem rRun (lo md hi : Int) (l : List Int) (hl : l.length ≤ 1000000) (k : Nat) (hk : 2 * l.length + 8 ≤ k) : headgateref32_Run.f k lo md hi l = some (runE lo md hi l) := by
  rw [← pRun lo md hi l hl k (by omega)]
  unfold headgateref32_Run.f pressure_Run.f
  rw [pask l hl lo md hi k (by omega), rask l hl lo md hi k hk]
  simp only [rRun_l0]

def spnL (md hi : Int) (l : List Int) : List S49 := (spF (stTo md hi l l.length)).1.map mS
def spnE (lo md hi : Int) (l : List Int) : List S49 × Int := if askE lo md hi l = 0 then (spnL md hi l, 0) else ([], askE lo md hi l)
theorem rd_bool (md hi : Int) (l : List Int) (j : Nat) (hj : j < l.length) : rdOf false (runL md hi l) (j : Int) = awAt md hi l (j + 1) := by
  simp [rdOf, runL, stTo, List.getD_eq_getElem?_getD, hj]
theorem runL_len (md hi : Int) (l : List Int) : (runL md hi l).length = l.length := by simp [runL, stTo_len]
theorem pSpans_l0 (md hi : Int) (l : List Int) (hl : l.length ≤ 1000000) : ∀ (n j k : Nat), j + n = l.length → n + 1 ≤ k →
    pressure_Spans.l0 k (runL md hi l) ((spF (stTo md hi l j)).1.map mS) (j : Int) = some (spnL md hi l, 0) := by
  intro n
  induction n with
  | zero =>
    intro j k hj hk
    obtain ⟨k, rfl⟩ : ∃ m, k = m + 1 := ⟨k - 1, by omega⟩
    obtain rfl : j = l.length := by omega
    simp only [pressure_Spans.l0]
    rw [runL_len, if_neg (by omega)]
    rfl
  | succ n ih =>
    intro j k hj hk
    obtain ⟨k, rfl⟩ : ∃ m, k = m + 1 := ⟨k - 1, by omega⟩
    have hlt : j < l.length := by omega
    have hbs := runL_len md hi l
    have h := ih (j + 1) k (by omega) (by omega)
    have hlen := spF_len (stTo md hi l j)
    rw [stTo_len] at hlen
    have hsn := spF_snd md hi l j
    rw [stTo_succ, spF_snoc, hsn] at h
    simp only [pressure_Spans.l0]
    rw [hbs, if_pos (by omega), if_pos (by omega), rd_bool md hi l j hlt, w64s hlt hl]
    simp only at h
    have hlm : ((spF (stTo md hi l j)).1.map mS).length < 8796093022208 := by simp; omega
    by_cases ha : awAt md hi l (j + 1) = true
    · rw [if_pos ha]
      rw [ha] at h
      by_cases hj0 : j = 0
      · subst hj0
        rw [if_neg (by omega), if_pos hlm]
        simpa [spStep, mS, awAt] using h
      · have hw1 : wrap64 ((j : Int) - 1) = ((j - 1 : Nat) : Int) := by unfold wrap64; omega
        rw [if_pos (by omega), hw1, if_pos (by omega), if_pos (by omega), rd_bool md hi l (j - 1) (by omega), show j - 1 + 1 = j by omega]
        by_cases hb : awAt md hi l j = true
        · rw [if_pos hb]
          rw [hb] at h
          have hne := hlen.2 (by rw [hsn, hb])
          obtain ⟨T, s, hT⟩ : ∃ T s, (spF (stTo md hi l j)).1 = T ++ [s] := ⟨_, _, (List.dropLast_concat_getLast hne).symm⟩
          rw [hT] at h hlen ⊢
          have hTl : ((T ++ [s]).map mS).length = T.length + 1 := by simp
          have hw2 : wrap64 ((((T ++ [s]).map mS).length : Int) - 1) = ((T.length : Nat) : Int) := by rw [hTl]; unfold wrap64; simp at hlen; omega
          rw [hw2, if_pos (by omega), if_pos (by rw [hTl]; omega)]
          have e1 : spStep (T ++ [s]) true (j : Int) true = T ++ [(s.1, (j : Int))] := by
            have e2 : (T ++ [s]).getLastD (0, 0) = s := by rw [List.getLastD_eq_getLast?, List.getLast?_concat]; rfl
            unfold spStep
            rw [if_pos rfl, if_pos rfl, List.dropLast_concat, e2]
          rw [e1, ← set_last T s (j : Int) T.length rfl] at h
          simpa [rd_T49] using h
        · rw [if_neg hb, if_pos hlm]
          have hb' : awAt md hi l j = false := by simpa using hb
          rw [hb'] at h
          simpa [spStep, mS] using h
    · rw [if_neg ha]
      have ha' : awAt md hi l (j + 1) = false := by simpa using ha
      rw [ha'] at h
      simpa [spStep] using h
theorem pSpans (lo md hi : Int) (l : List Int) (hl : l.length ≤ 1000000) (k : Nat) (hk : l.length + 2 ≤ k) : pressure_Spans.f k lo md hi l = some (spnE lo md hi l) := by
  unfold pressure_Spans.f spnE
  rw [pRun lo md hi l hl k hk]
  simp only [Option.bind_some]
  unfold runE
  by_cases h : askE lo md hi l = 0
  · rw [if_pos h, if_pos h, if_pos rfl]
    exact pSpans_l0 md hi l hl l.length 0 k (by omega) (by omega)
  · rw [if_neg h, if_neg h, if_neg h]
theorem rSpans_l0 : ∀ (k : Nat) (x6 : List Bool) (x8 : List S49) (x9 : Int), headgateref32_Spans.l0 k x6 x8 x9 = pressure_Spans.l0 k x6 x8 x9 := by
  intro k
  induction k with
  | zero => intros; rfl
  | succ k ih =>
    intro x6 x8 x9
    simp only [headgateref32_Spans.l0, pressure_Spans.l0, ih]
theorem rSpans (lo md hi : Int) (l : List Int) (hl : l.length ≤ 1000000) (k : Nat) (hk : 2 * l.length + 8 ≤ k) : headgateref32_Spans.f k lo md hi l = some (spnE lo md hi l) := by
  rw [← pSpans lo md hi l hl k (by omega)]
  unfold headgateref32_Spans.f pressure_Spans.f
  rw [pRun lo md hi l hl k (by omega), rRun lo md hi l hl k hk]
  simp only [rSpans_l0]

/-- the worst of the first j numbers -/
def wsTo (lo md hi : Int) (l : List Int) : Nat → Int × Int
  | 0 => (0, -1)
  | j + 1 => if (wsTo lo md hi l j).2 < 0 ∨ lvF lo md hi (l[j]?.getD 0) > (wsTo lo md hi l j).1 then (lvF lo md hi (l[j]?.getD 0), (j : Int)) else wsTo lo md hi l j
def wstE (lo md hi : Int) (l : List Int) : Int × Int × Int := if askE lo md hi l = 0 then ((wsTo lo md hi l l.length).1, (wsTo lo md hi l l.length).2, 0) else (0, 0, askE lo md hi l)
theorem pWorst_l0 (lo md hi : Int) (l : List Int) (hl : l.length ≤ 1000000) : ∀ (n j k : Nat), j + n = l.length → n + 1 ≤ k →
    pressure_Worst.l0 k (wsTo lo md hi l j).1 (wsTo lo md hi l j).2 l (l.length : Int) (j : Int) lo md hi = some ((wsTo lo md hi l l.length).1, (wsTo lo md hi l l.length).2, 0) := by
  intro n
  induction n with
  | zero =>
    intro j k hj hk
    obtain ⟨k, rfl⟩ : ∃ m, k = m + 1 := ⟨k - 1, by omega⟩
    obtain rfl : j = l.length := by omega
    simp only [pressure_Worst.l0]
    rw [if_neg (by omega)]
  | succ n ih =>
    intro j k hj hk
    obtain ⟨k, rfl⟩ : ∃ m, k = m + 1 := ⟨k - 1, by omega⟩
    have hlt : j < l.length := by omega
    have h := ih (j + 1) k (by omega) (by omega)
    simp only [pressure_Worst.l0]
    rw [if_pos (by omega), if_pos (by omega), if_pos (by omega), plev, w64s hlt hl, rd_opt]
    simp only [Option.bind_some]
    rw [wsTo] at h
    by_cases h1 : (wsTo lo md hi l j).2 < 0
    · rw [if_pos h1]
      rw [if_pos (Or.inl h1)] at h
      exact h
    · rw [if_neg h1]
      by_cases h2 : lvF lo md hi (l[j]?.getD 0) > (wsTo lo md hi l j).1
      · rw [if_pos h2]
        rw [if_pos (Or.inr h2)] at h
        exact h
      · rw [if_neg h2]
        rw [if_neg (by omega)] at h
        exact h
theorem pWorst (lo md hi : Int) (l : List Int) (hl : l.length ≤ 1000000) (k : Nat) (hk : l.length + 2 ≤ k) : pressure_Worst.f k lo md hi l = some (wstE lo md hi l) := by
  unfold pressure_Worst.f wstE
  rw [pask l hl lo md hi k hk]
  simp only [Option.bind_some]
  by_cases h : askE lo md hi l = 0
  · rw [if_pos h, if_pos h]
    exact pWorst_l0 lo md hi l hl l.length 0 k (by omega) (by omega)
  · rw [if_neg h, if_neg h]
theorem rWorst_l0 (l : List Int) (lo md hi : Int) : ∀ (k : Nat) (x4 x5 x19 : Int), headgateref32_Worst.l0 k l x4 x5 x19 lo md hi = pressure_Worst.l0 k x4 x5 l (l.length : Int) x19 lo md hi := by
  intro k
  induction k with
  | zero => intros; rfl
  | succ k ih =>
    intro x4 x5 x19
    simp only [headgateref32_Worst.l0, pressure_Worst.l0, ih, rlev, plev]
    by_cases h : x19 < (l.length : Int)
    · simp only [if_pos h]
    · simp only [if_neg h]
theorem rWorst (lo md hi : Int) (l : List Int) (hl : l.length ≤ 1000000) (k : Nat) (hk : 2 * l.length + 8 ≤ k) : headgateref32_Worst.f k lo md hi l = some (wstE lo md hi l) := by
  rw [← pWorst lo md hi l hl k (by omega)]
  unfold headgateref32_Worst.f pressure_Worst.f
  rw [pask l hl lo md hi k (by omega), rask l hl lo md hi k hk]
  simp only [rWorst_l0]

theorem sameBools (l : List Bool) (hl : l.length ≤ 1000000) (k : Nat) (hk : l.length + 2 ≤ k) : headgatekit_SameBools.f k l l = some true := by
  have aux : ∀ (n j k : Nat), j + n = l.length → n + 1 ≤ k → headgatekit_SameBools.l0 k l l (j : Int) = some true := by
    intro n
    induction n with
    | zero =>
      intro j k hj hk
      obtain ⟨k, rfl⟩ : ∃ m, k = m + 1 := ⟨k - 1, by omega⟩
      simp only [headgatekit_SameBools.l0]
      rw [if_neg (by omega)]
    | succ n ih =>
      intro j k hj hk
      obtain ⟨k, rfl⟩ : ∃ m, k = m + 1 := ⟨k - 1, by omega⟩
      simp only [headgatekit_SameBools.l0]
      rw [if_pos (by omega), if_pos (by omega), if_pos (by omega), if_neg (by simp), w64s (show j < l.length by omega) hl]
      exact ih (j + 1) k (by omega) (by omega)
  unfold headgatekit_SameBools.f
  rw [if_pos rfl]
  exact aux l.length 0 k (by omega) (by omega)
theorem sameInts (l : List Int) (hl : l.length ≤ 1000000) (k : Nat) (hk : l.length + 2 ≤ k) : headgatekit_SameInts.f k l l = some true := by
  have aux : ∀ (n j k : Nat), j + n = l.length → n + 1 ≤ k → headgatekit_SameInts.l0 k l l (j : Int) = some true := by
    intro n
    induction n with
    | zero =>
      intro j k hj hk
      obtain ⟨k, rfl⟩ : ∃ m, k = m + 1 := ⟨k - 1, by omega⟩
      simp only [headgatekit_SameInts.l0]
      rw [if_neg (by omega)]
    | succ n ih =>
      intro j k hj hk
      obtain ⟨k, rfl⟩ : ∃ m, k = m + 1 := ⟨k - 1, by omega⟩
      simp only [headgatekit_SameInts.l0]
      rw [if_pos (by omega), if_pos (by omega), if_pos (by omega), if_pos trivial, w64s (show j < l.length by omega) hl]
      exact ih (j + 1) k (by omega) (by omega)
  unfold headgatekit_SameInts.f
  rw [if_pos rfl]
  exact aux l.length 0 k (by omega) (by omega)
theorem sameSpans (l : List S49) (hl : l.length ≤ 1000000) (k : Nat) (hk : l.length + 2 ≤ k) : headgatelaw32_sameSpans.f k l l = some true := by
  have aux : ∀ (n j k : Nat), j + n = l.length → n + 1 ≤ k → headgatelaw32_sameSpans.l0 k l l (j : Int) = some true := by
    intro n
    induction n with
    | zero =>
      intro j k hj hk
      obtain ⟨k, rfl⟩ : ∃ m, k = m + 1 := ⟨k - 1, by omega⟩
      simp only [headgatelaw32_sameSpans.l0]
      rw [if_neg (by omega)]
    | succ n ih =>
      intro j k hj hk
      obtain ⟨k, rfl⟩ : ∃ m, k = m + 1 := ⟨k - 1, by omega⟩
      simp only [headgatelaw32_sameSpans.l0]
      rw [if_pos (by omega), if_pos (by omega), if_pos (by omega), if_neg (by simp), w64s (show j < l.length by omega) hl]
      exact ih (j + 1) k (by omega) (by omega)
  unfold headgatelaw32_sameSpans.f
  rw [if_pos rfl]
  exact aux l.length 0 k (by omega) (by omega)
theorem ownInts (l : List Int) (hl : l.length ≤ 1000000) : headgatekit_OwnInts.f l = some l := by
  unfold headgatekit_OwnInts.f
  simp only [Option.bind_some]
  rw [if_pos (by simp; omega)]
  rfl
theorem spnL_len (md hi : Int) (l : List Int) : (spnL md hi l).length ≤ l.length := by
  have := (spF_len (stTo md hi l l.length)).1
  rw [stTo_len] at this
  simpa [spnL] using this
end Go.Proofs.Ytfjfmhkifaiakaa.PA
