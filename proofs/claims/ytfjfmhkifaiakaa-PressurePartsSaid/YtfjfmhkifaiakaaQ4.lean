/- The marks and histories made of numbers; PressureMore. Conditions: the numbers are of their kinds. -/
import Derived.Test.YtfjfmhkifaiakaaQ2
import Derived.Test.YtfjfmhkifaiakaaPAx7
namespace Go.Proofs.Ytfjfmhkifaiakaa.PA
open Go.RowKit Go.Proofs.YtfjfmhkifaiakaaW.PrintWords Go.Proofs.YtfjfmhkifaiakaaW.PrintLast
set_option linter.unusedVariables false
set_option linter.unusedSimpArgs false

theorem mod_f (n m : Int) (n0 : -9223372036854775808 ≤ n) (n1 : n ≤ 9223372036854775807) (m0 : 1 ≤ m) (m1 : m ≤ 1000000) : ∃ r, headgatekit_Mod.f n m = some r ∧ 0 ≤ r ∧ r < m := by
  unfold headgatekit_Mod.f
  rw [if_neg (by omega), if_neg (by omega)]
  have h1 : n.tmod m < m := Int.tmod_lt_of_pos n (by omega)
  have h2 : -m < n.tmod m := by have := Int.lt_tmod_of_pos n (show 0 < m by omega); omega
  split
  · refine ⟨_, rfl, ?_⟩
    unfold wrap64
    omega
  · exact ⟨_, rfl, by omega, h1⟩
theorem wf_i {n : Int} (h : (Lit.int .i64 n).wf = true) : -9223372036854775808 ≤ n ∧ n ≤ 9223372036854775807 := by
  simp [Lit.wf, IntKind.min, IntKind.max, IntKind.signed, IntKind.bits] at h
  exact h
theorem w64r (x : Int) : -9223372036854775808 ≤ wrap64 x ∧ wrap64 x ≤ 9223372036854775807 := by unfold wrap64; omega
theorem made_f (n : Int) (n0 : -9223372036854775808 ≤ n) (n1 : n ≤ 9223372036854775807) : ∃ lo md hi, headgatelaw32_made.f n = some (lo, md, hi) ∧ 0 ≤ lo ∧ lo < md ∧ md < hi ∧ hi ≤ 30 := by
  obtain ⟨a, ha, a0, a1⟩ := mod_f n 6 n0 n1 (by omega) (by omega)
  obtain ⟨b, hb, b0, b1⟩ := mod_f (wrap64 (Int.tdiv n 6)) 5 (w64r _).1 (w64r _).2 (by omega) (by omega)
  obtain ⟨c, hc, c0, c1⟩ := mod_f (wrap64 (Int.tdiv n 30)) 6 (w64r _).1 (w64r _).2 (by omega) (by omega)
  unfold headgatelaw32_made.f
  rw [ha, hb, hc]
  simp only [Option.bind_some]
  refine ⟨_, _, _, rfl, ?_⟩
  unfold wrap64
  omega
theorem chk_good {lo md hi : Int} (h0 : 0 ≤ lo) (h1 : lo < md) (h2 : md < hi) (h3 : hi ≤ 256) : chkE lo md hi = 0 := by
  unfold chkE
  rw [if_neg (by omega), if_neg (by omega)]
theorem ask_good {lo md hi : Int} (h0 : 0 ≤ lo) (h1 : lo < md) (h2 : md < hi) (h3 : hi ≤ 256) (l : List Int) (hl : l.length ≤ 400) (hx : ∀ x ∈ l, 0 ≤ x ∧ x ≤ 256) : askE lo md hi l = 0 := by
  unfold askE
  rw [if_pos (chk_good h0 h1 h2 h3), if_neg (by omega), if_neg]
  intro h
  obtain ⟨x, hm, hb⟩ := List.any_eq_true.1 h
  have := hx x hm
  simp [badN] at hb
  omega
theorem nex_good {lo md hi : Int} (h0 : 0 ≤ lo) (h1 : lo < md) (h2 : md < hi) (h3 : hi ≤ 256) (a : Bool) (fr : Int) (f0 : 0 ≤ fr) (f1 : fr ≤ 256) : nexE lo md hi a fr = (awN md hi a fr, 0) := by
  unfold nexE
  rw [if_pos (ask_good h0 h1 h2 h3 [fr] (by simp) (by simp; omega))]
theorem lev_good {lo md hi : Int} (h0 : 0 ≤ lo) (h1 : lo < md) (h2 : md < hi) (h3 : hi ≤ 256) (fr : Int) (f0 : 0 ≤ fr) (f1 : fr ≤ 256) : levE lo md hi fr = (lvF lo md hi fr, 0) := by
  unfold levE
  rw [if_pos (ask_good h0 h1 h2 h3 [fr] (by simp) (by simp; omega))]
theorem mis_good {lo md hi : Int} (h0 : 0 ≤ lo) (h1 : lo < md) (h2 : md < hi) (h3 : hi ≤ 256) (a : Bool) (fr : Int) (f0 : 0 ≤ fr) (f1 : fr ≤ 256) : misE lo md hi a fr = (if awN md hi a fr = true then hi - fr else 0, 0) := by
  unfold misE
  rw [nex_good h0 h1 h2 h3 a fr f0 f1]
  simp only [if_true]
  have : wrap64 (hi - fr) = hi - fr := by unfold wrap64; omega
  split <;> simp [this]
theorem aw_iff (md hi : Int) (a : Bool) (fr : Int) : awN md hi a fr = true ↔ (fr < md ∨ (a = true ∧ fr < hi)) := by simp [awN]

theorem more_round {lo md hi x y : Int} (h0 : 0 ≤ lo) (h1 : lo < md) (h2 : md < hi) (h3 : hi ≤ 30) (x0 : 0 ≤ x) (xy : x ≤ y) (y1 : y ≤ 40) (i : Int) (i0 : 0 ≤ i) (i1 : i < 2) (k : Nat) (hk : 100 ≤ k) (r : Option Bool)
    (next : headgatelaw32_PressureMore.l0 k x y (i + 1) lo md hi = r) : headgatelaw32_PressureMore.l0 (k + 2) x y i lo md hi = r := by
  have hw : wrap64 (i + 1) = i + 1 := by unfold wrap64; omega
  rw [show k + 2 = (k + 1) + 1 from rfl, headgatelaw32_PressureMore.l0, if_pos (by omega), pNext _ _ _ _ _ _ (by omega), pNext _ _ _ _ _ _ (by omega), pMissing _ _ _ _ _ _ (by omega)]
  simp only [Option.bind_some]
  rw [nex_good h0 h1 h2 (by omega) _ x (by omega) (by omega), nex_good h0 h1 h2 (by omega) _ y (by omega) (by omega), mis_good h0 h1 h2 (by omega) _ x (by omega) (by omega)]
  simp only [if_true]
  have hmono : awN md hi (i == 1) y = true → awN md hi (i == 1) x = true := by
    rw [aw_iff, aw_iff]
    intro h
    rcases h with h | ⟨h, h'⟩
    · exact Or.inl (by omega)
    · exact Or.inr ⟨h, by omega⟩
  cases hx : awN md hi (i == 1) x
  · have hy : awN md hi (i == 1) y = false := by
      cases hy : awN md hi (i == 1) y
      · rfl
      · rw [hmono hy] at hx; cases hx
    rw [hy]
    simp only [Bool.false_eq_true, if_false]
    rw [show (((0 : Int) == 0) == false) = false by rfl, if_neg (by simp), if_neg (by omega), headgatelaw32_PressureMore.j2]
    rw [show decide ((0 : Int) > hi) = false by simp; omega, if_neg (by simp), if_neg (by simp), hw]
    exact next
  · have hlt : x < hi := by
      rw [aw_iff] at hx
      rcases hx with h | ⟨_, h⟩ <;> omega
    simp only [if_true]
    have e0 : ((hi - x == 0) == true) = false := by simp; omega
    have hgo : headgatelaw32_PressureMore.j2 (k + 1) x y i true (hi - x) (decide (hi - x > hi)) lo md hi = r := by
      rw [show decide (hi - x > hi) = false by simp; omega, headgatelaw32_PressureMore.j2, if_neg (by simp), if_pos rfl]
      have e1 : wrap64 (x + (hi - x)) = hi := by unfold wrap64; omega
      have e2 : wrap64 (hi - 1) = hi - 1 := by unfold wrap64; omega
      rw [e1, e2, pNext _ _ _ _ _ _ (by omega), pNext _ _ _ _ _ _ (by omega)]
      simp only [Option.bind_some]
      rw [nex_good h0 h1 h2 (by omega) _ hi (by omega) (by omega), nex_good h0 h1 h2 (by omega) _ (hi - 1) (by omega) (by omega)]
      simp only [if_true]
      have a1 : awN md hi true hi = false := by
        cases h : awN md hi true hi
        · rfl
        · rw [aw_iff] at h; omega
      have a2 : awN md hi true (hi - 1) = true := by rw [aw_iff]; exact Or.inr ⟨rfl, by omega⟩
      rw [a1, a2, if_neg (by simp), if_pos rfl, hw]
      exact next
    rw [e0]
    simp only [Bool.false_eq_true, if_false]
    split
    · rw [if_neg (by omega)]
      exact hgo
    · rw [if_neg (by omega)]
      exact hgo

theorem more_pure : headgatelaw32_PressureMore.Pure := by
  intro n x y wn wx wy
  obtain ⟨n0, n1⟩ := wf_i wn
  obtain ⟨x0, x1⟩ := wf_i wx
  obtain ⟨y0, y1⟩ := wf_i wy
  obtain ⟨lo, md, hi, hm, h0, h1, h2, h3⟩ := made_f n n0 n1
  obtain ⟨a, ha, a0, a1⟩ := mod_f x 40 x0 x1 (by omega) (by omega)
  obtain ⟨b, hb, b0, b1⟩ := mod_f y 40 y0 y1 (by omega) (by omega)
  refine ⟨205, ?_⟩
  unfold headgatelaw32_PressureMore.f
  rw [hm, ha, hb]
  simp only [Option.bind_some]
  have hmn : 0 ≤ mn a b ∧ mn a b ≤ mx a b ∧ mx a b ≤ 40 := by unfold mn mx; omega
  obtain ⟨m0, mxy, m1⟩ := hmn
  generalize mn a b = p at *
  generalize mx a b = q at *
  rw [pLevel _ _ _ _ _ (by omega), pLevel _ _ _ _ _ (by omega)]
  simp only [Option.bind_some]
  rw [lev_good h0 h1 h2 (by omega) p (by omega) (by omega), lev_good h0 h1 h2 (by omega) q (by omega) (by omega)]
  simp only [if_true]
  have hle : lvF lo md hi q ≤ lvF lo md hi p := by
    unfold lvF
    (repeat' split) <;> omega
  rw [show decide (lvF lo md hi q > lvF lo md hi p) = false by simp; omega, headgatelaw32_PressureMore.j0, if_neg (by simp)]
  refine more_round h0 h1 h2 h3 m0 mxy m1 0 (by omega) (by omega) 202 (by omega) _ ?_
  refine more_round h0 h1 h2 h3 m0 mxy m1 1 (by omega) (by omega) 200 (by omega) _ ?_
  rw [headgatelaw32_PressureMore.l0, if_neg (by omega), awake_k _ (by omega)]
  rfl
end Go.Proofs.Ytfjfmhkifaiakaa.PA
