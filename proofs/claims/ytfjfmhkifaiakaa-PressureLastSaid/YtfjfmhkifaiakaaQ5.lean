/- Histories made of numbers; PressureLast. Conditions: enough rounds. -/
import Derived.Test.YtfjfmhkifaiakaaQ4
import Derived.Test.YtfjfmhkifaiakaaPAx11
namespace Go.Proofs.Ytfjfmhkifaiakaa.PA
open Go.RowKit Go.Proofs.YtfjfmhkifaiakaaW.PrintWords Go.Proofs.YtfjfmhkifaiakaaW.PrintLast
set_option linter.unusedVariables false
set_option linter.unusedSimpArgs false

theorem hist_l0 (l : List Int) (hx : ∀ x ∈ l, (Lit.int .i64 x).wf = true) : ∀ (n j k : Nat) (s : List Int), j + n = 40 → n + 1 ≤ k → s.length = j → (∀ x ∈ s, 0 ≤ x ∧ x < 20) →
    ∃ r, headgatelaw32_history.l0 k l s (j : Int) = some r ∧ r.length ≤ 40 ∧ ∀ x ∈ r, 0 ≤ x ∧ x < 20 := by
  intro n
  induction n with
  | zero =>
    intro j k s hj hk hs hg
    obtain ⟨k, rfl⟩ : ∃ m, k = m + 1 := ⟨k - 1, by omega⟩
    simp only [headgatelaw32_history.l0]
    have e : ¬ ((j : Int) < 40) := by omega
    rw [if_neg e]
    exact ⟨s, by split <;> rfl, by omega, hg⟩
  | succ n ih =>
    intro j k s hj hk hs hg
    obtain ⟨k, rfl⟩ : ∃ m, k = m + 1 := ⟨k - 1, by omega⟩
    simp only [headgatelaw32_history.l0]
    by_cases h : (j : Int) < (l.length : Int)
    · have hlt : j < l.length := by omega
      have hm := wf_i (hx _ (List.getElem_mem hlt))
      obtain ⟨r, hr, r0, r1⟩ := mod_f l[j] 20 hm.1 hm.2 (by omega) (by omega)
      rw [if_pos h, if_pos (by omega), if_pos (by omega), rd_nat l j hlt, hr]
      simp only [Option.bind_some]
      have hw : wrap64 ((j : Int) + 1) = ((j + 1 : Nat) : Int) := by unfold wrap64; omega
      rw [if_pos (by omega), hw]
      refine ih (j + 1) k (s ++ [r]) (by omega) (by omega) (by simp; omega) ?_
      intro x hx
      rcases List.mem_append.1 hx with h | h
      · exact hg x h
      · rw [List.mem_singleton.1 h]; exact ⟨r0, r1⟩
    · rw [if_neg h]
      exact ⟨s, rfl, by omega, hg⟩
theorem hist_f (l : List Int) (hx : ∀ x ∈ l, (Lit.int .i64 x).wf = true) (k : Nat) (hk : 41 ≤ k) : ∃ r, headgatelaw32_history.f k l = some r ∧ r.length ≤ 40 ∧ ∀ x ∈ r, 0 ≤ x ∧ x < 20 := by
  unfold headgatelaw32_history.f
  exact hist_l0 l hx 40 0 k [] (by omega) (by omega) rfl (by simp)

/-- what each span of the first j numbers is -/
def SpInv (md hi : Int) (l : List Int) (j : Nat) (S : List (Int × Int)) : Prop :=
  (∀ s ∈ S, ∃ f t : Nat, s = ((f : Int), (t : Int)) ∧ f ≤ t ∧ t < j ∧ l[f]?.getD 0 < md ∧ awAt md hi l (t + 1) = true ∧ (t + 1 < j → hi ≤ l[t + 1]?.getD 0)) ∧ ∀ s ∈ S.dropLast, s.2 + 1 < (j : Int)
theorem spInv (md hi : Int) (l : List Int) (hmh : md < hi) : ∀ j, SpInv md hi l j (spF (stTo md hi l j)).1 := by
  intro j
  induction j with
  | zero => exact ⟨by simp [spF, stTo], by simp [spF, stTo]⟩
  | succ j ih =>
    have hlen := spF_len (stTo md hi l j)
    have hsn := spF_snd md hi l j
    rw [stTo_succ, spF_snoc]
    simp only
    rw [hsn]
    generalize (spF (stTo md hi l j)).1 = S at ih hlen
    rw [hsn] at hlen
    have ha := aw_iff md hi (awAt md hi l j) (l[j]?.getD 0)
    have hd : awAt md hi l (j + 1) = awN md hi (awAt md hi l j) (l[j]?.getD 0) := rfl
    rw [← hd] at ha
    cases h1 : awAt md hi l (j + 1)
    · rw [h1] at ha
      simp only [Bool.false_eq_true, false_iff, not_or, not_and] at ha
      show SpInv md hi l (j + 1) S
      refine ⟨fun s hs => ?_, fun s hs => by have := ih.2 s hs; omega⟩
      obtain ⟨f, t, e, h2, h3, h4, h5, h6⟩ := ih.1 s hs
      refine ⟨f, t, e, h2, by omega, h4, h5, fun h => ?_⟩
      by_cases h7 : t + 1 < j
      · exact h6 h7
      · have e : t + 1 = j := by omega
        rw [e] at h5 ⊢
        have := ha.2 h5
        omega
    · rw [h1] at ha
      simp only [true_iff] at ha
      cases h2 : awAt md hi l j
      · rw [h2] at ha
        simp only [Bool.false_eq_true, false_and, or_false] at ha
        show SpInv md hi l (j + 1) (S ++ [((j : Int), (j : Int))])
        refine ⟨fun s hs => ?_, fun s hs => ?_⟩
        · rcases List.mem_append.1 hs with hs | hs
          · obtain ⟨f, t, e, h2', h3, h4, h5, h6⟩ := ih.1 s hs
            refine ⟨f, t, e, h2', by omega, h4, h5, fun h => ?_⟩
            by_cases h7 : t + 1 < j
            · exact h6 h7
            · have e : t + 1 = j := by omega
              rw [e, h2] at h5
              cases h5
          · rw [List.mem_singleton.1 hs]
            exact ⟨j, j, rfl, by omega, by omega, ha, h1, fun h => by omega⟩
        · rw [List.dropLast_concat] at hs
          obtain ⟨f, t, e, h2', h3, h4, h5, h6⟩ := ih.1 s hs
          rw [e]
          simp only
          omega
      · have hne := hlen.2 h2
        obtain ⟨T, s0, rfl⟩ : ∃ T s, S = T ++ [s] := ⟨_, _, (List.dropLast_concat_getLast hne).symm⟩
        have e1 : spStep (T ++ [s0]) true (j : Int) true = T ++ [(s0.1, (j : Int))] := by
          have e2 : (T ++ [s0]).getLastD (0, 0) = s0 := by rw [List.getLastD_eq_getLast?, List.getLast?_concat]; rfl
          unfold spStep
          rw [if_pos rfl, if_pos rfl, List.dropLast_concat, e2]
        rw [e1]
        refine ⟨fun s hs => ?_, fun s hs => ?_⟩
        · rcases List.mem_append.1 hs with hs | hs
          · obtain ⟨f, t, e, h2', h3, h4, h5, h6⟩ := ih.1 s (List.mem_append_left _ hs)
            have h8 := ih.2 s (by rw [List.dropLast_concat]; exact hs)
            rw [e] at h8
            simp only at h8
            exact ⟨f, t, e, h2', by omega, h4, h5, fun h => h6 (by omega)⟩
          · rw [List.mem_singleton.1 hs]
            obtain ⟨f, t, e, h2', h3, h4, h5, h6⟩ := ih.1 s0 (List.mem_append_right _ (List.mem_singleton.2 rfl))
            rw [e]
            exact ⟨f, j, rfl, by omega, by omega, h4, h1, fun h => by omega⟩
        · rw [List.dropLast_concat] at hs
          have h8 := ih.2 s (by rw [List.dropLast_concat]; exact hs)
          omega

theorem last_l1 (lo md hi : Int) (l : List Int) (hl : l.length ≤ 1000000) (S : List (Int × Int)) (hS : S.length ≤ 1000000) (hI : SpInv md hi l l.length S) (hmh : md < hi) : ∀ (n j k : Nat), j + n = S.length → n + 80 ≤ k →
    headgatelaw32_PressureLast.l1 k l (S.map mS) (j : Int) lo md hi = some true := by
  intro n
  induction n with
  | zero =>
    intro j k hj hk
    obtain ⟨k, rfl⟩ : ∃ m, k = m + 1 := ⟨k - 1, by omega⟩
    rw [headgatelaw32_PressureLast.l1, if_neg (by rw [List.length_map]; omega), awake_k _ (by omega)]
    rfl
  | succ n ih =>
    intro j k hj hk
    obtain ⟨k, rfl⟩ : ∃ m, k = m + 1 := ⟨k - 1, by omega⟩
    have hlt : j < S.length := by omega
    have hn := ih (j + 1) k (by omega) (by omega)
    obtain ⟨f, t, e, h2, h3, h4, h5, h6⟩ := hI.1 S[j] (List.getElem_mem hlt)
    have er : rd_T49 (S.map mS) (j : Int) = ⟨(f : Int), (t : Int)⟩ := by
      have : rd_T49 (S.map mS) (j : Int) = mS S[j] := by simp [rd_T49, List.getD_eq_getElem?_getD, hlt]
      rw [this, e]; rfl
    rw [headgatelaw32_PressureLast.l1, if_pos (by rw [List.length_map]; omega), if_pos (by omega), er]
    simp only
    rw [if_neg (by omega), if_neg (by omega), if_neg (by omega), if_pos (by omega), if_pos (by omega), rd_opt, if_neg (by omega), w64s (show t < l.length by omega) hl, w64s hlt hS]
    by_cases h7 : ((t + 1 : Nat) : Int) < (l.length : Int)
    · rw [if_pos h7, if_pos (by omega), rd_opt, if_neg (by have := h6 (by omega); omega)]
      exact hn
    · rw [if_neg h7]
      exact hn

theorem last_l0 (lo md hi : Int) (l : List Int) (hl : l.length ≤ 10000) (hmh : md < hi) (hq : askE lo md hi l = 0) : ∀ (n j k : Nat), j + n = l.length → 2 * n + 2 * l.length + 200 ≤ k →
    headgatelaw32_PressureLast.l0 k l (runL md hi l) (awAt md hi l j) (j : Int) lo md hi = some true := by
  intro n
  induction n with
  | zero =>
    intro j k hj hk
    obtain ⟨k, rfl⟩ : ∃ m, k = m + 1 := ⟨k - 1, by omega⟩
    rw [headgatelaw32_PressureLast.l0, if_neg (by omega), pSpans lo md hi l (by omega) _ (by omega)]
    simp only [Option.bind_some]
    unfold spnE
    rw [if_pos hq]
    simp only [if_true]
    have hs : (spF (stTo md hi l l.length)).1.length ≤ l.length := by
      have := (spF_len (stTo md hi l l.length)).1
      rwa [stTo_len] at this
    exact last_l1 lo md hi l (by omega) _ (by omega) (spInv md hi l hmh l.length) hmh (spF (stTo md hi l l.length)).1.length 0 k (by omega) (by omega)
  | succ n ih =>
    intro j k hj hk
    obtain ⟨k, rfl⟩ : ∃ m, k = m + 2 := ⟨k - 2, by omega⟩
    have hlt : j < l.length := by omega
    have hn := ih (j + 1) k (by omega) (by omega)
    have hbs := runL_len md hi l
    rw [show k + 2 = (k + 1) + 1 from rfl, headgatelaw32_PressureLast.l0, if_pos (by omega), if_pos (by omega)]
    simp only [headgatelaw32_PressureLast.j2]
    rw [hbs, rd_bool md hi l j hlt, w64s hlt (by omega), rd_opt]
    have hd : awAt md hi l (j + 1) = awN md hi (awAt md hi l j) (l[j]?.getD 0) := rfl
    generalize awAt md hi l (j + 1) = a at hd hn
    generalize awAt md hi l j = b at hd
    generalize l[j]?.getD 0 = x at hd
    by_cases h1 : x < md
    · have ea : a = true := by rw [hd]; simp [awN, h1]
      rw [ea] at hn ⊢
      rw [if_pos h1, if_pos (by omega), if_pos (by omega), if_neg (by omega), if_pos (by omega), if_neg (by simp)]
      exact hn
    · rw [if_neg h1, if_pos (by omega), if_pos (by omega)]
      by_cases h2 : x ≥ hi
      · have ea : a = false := by rw [hd]; simp [awN, h1]; intro _; omega
        rw [ea] at hn ⊢
        rw [if_pos h2, if_pos (by omega), if_neg (by simp)]
        exact hn
      · have ea : a = b := by rw [hd]; simp [awN, h1]; intro _; omega
        rw [ea] at hn ⊢
        rw [if_neg h2, if_pos (by omega), if_neg (by simp)]
        exact hn

theorem last_pure : headgatelaw32_PressureLast.Pure := by
  intro n l wn hm hm' hx
  obtain ⟨n0, n1⟩ := wf_i wn
  obtain ⟨lo, md, hi, hmk, h0, h1, h2, h3⟩ := made_f n n0 n1
  obtain ⟨h, hh, hl, hg⟩ := hist_f l hx 400 (by omega)
  refine ⟨400, ?_⟩
  unfold headgatelaw32_PressureLast.f
  rw [hmk, hh]
  simp only [Option.bind_some]
  have hq : askE lo md hi h = 0 := ask_good h0 h1 h2 (by omega) h (by omega) (fun x hx => by have := hg x hx; omega)
  rw [pRun lo md hi h (by omega) 400 (by omega)]
  simp only [Option.bind_some]
  unfold runE
  rw [if_pos hq]
  simp only [if_true]
  rw [runL_len, show ((h.length : Int) != (h.length : Int)) = false by simp, show 400 = 399 + 1 from rfl, headgatelaw32_PressureLast.j0, if_neg (by simp)]
  exact last_l0 lo md hi h (by omega) h2 hq h.length 0 399 (by omega) (by omega)
end Go.Proofs.Ytfjfmhkifaiakaa.PA
