/- Histories made of numbers; PressureLast. Conditions: enough rounds. -/
import Derived.Test.YtfjfmhkifaiakaaQ4
namespace Go.Proofs.Ytfjfmhkifaiakaa.PA
open Go.RowKit Go.Proofs.YtfjfmhkifaiakaaW.PrintWords Go.Proofs.YtfjfmhkifaiakaaW.PrintLast
set_option linter.unusedVariables false
set_option linter.unusedSimpArgs false

theorem hist_l0 (l : List Int) (hx : ∀ x ∈ l, (Lit.int .i64 x).wf = true) : ∀ (n j k : Nat) (s : List Int), j + n = 40 → n + 1 ≤ k → s.length = j → (∀ x ∈ s, 0 ≤ x ∧ x < 20) →
    ∃ r, headgatelaw32_history.l0 k l s (j : Int) = some r ∧ r.length ≤ 40 ∧ ∀ x ∈ r, 0 ≤ x ∧ x < 20 := by
  intro n
  induction n with
  | zero =>
    intro j k s hj hk hs hg
    obtain ⟨k, rfl⟩ : ∃ m, k = m + 1 := ⟨k - 1, by omega⟩
    simp only [headgatelaw32_history.l0]
    have e : ¬ ((j : Int) < 40) := by omega
    rw [if_neg e]
    exact ⟨s, by split <;> rfl, by omega, hg⟩
  | succ n ih =>
    intro j k s hj hk hs hg
    obtain ⟨k, rfl⟩ : ∃ m, k = m + 1 := ⟨k - 1, by omega⟩
    simp only [headgatelaw32_history.l0]
    by_cases h : (j : Int) < (l.length : Int)
    · have hlt : j < l.length := by omega
      have hm := wf_i (hx _ (List.getElem_mem hlt))
      obtain ⟨r, hr, r0, r1⟩ := mod_f l[j] 20 hm.1 hm.2 (by omega) (by omega)
      rw [if_pos h, if_pos (by omega), if_pos (by omega), rd_nat l j hlt, hr]
      simp only [Option.bind_some]
      have hw : wrap64 ((j : Int) + 1) = ((j + 1 : Nat) : Int) := by unfold wrap64; omega
      rw [if_pos (by omega), hw]
      refine ih (j + 1) k (s ++ [r]) (by omega) (by omega) (by simp; omega) ?_
      intro x hx
      rcases List.mem_append.1 hx with h | h
      · exact hg x h
      · rw [List.mem_singleton.1 h]; exact ⟨r0, r1⟩
    · rw [if_neg h]
      exact ⟨s, rfl, by omega, hg⟩
theorem hist_f (l : List Int) (hx : ∀ x ∈ l, (Lit.int .i64 x).wf = true) (k : Nat) (hk : 41 ≤ k) : ∃ r, headgatelaw32_history.f k l = some r ∧ r.length ≤ 40 ∧ ∀ x ∈ r, 0 ≤ x ∧ x < 20 := by
  unfold headgatelaw32_history.f
  exact hist_l0 l hx 40 0 k [] (by omega) (by omega) rfl (by simp)
end Go.Proofs.Ytfjfmhkifaiakaa.PA
