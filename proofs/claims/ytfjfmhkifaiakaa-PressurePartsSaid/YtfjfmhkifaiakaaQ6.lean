/- PressureParts. Conditions: enough rounds. -/
import Derived.Test.YtfjfmhkifaiakaaQ7
import Derived.Test.YtfjfmhkifaiakaaPAx9
namespace Go.Proofs.Ytfjfmhkifaiakaa.PA
open Go.RowKit Go.Proofs.YtfjfmhkifaiakaaW.PrintWords Go.Proofs.YtfjfmhkifaiakaaW.PrintLast Go.Proofs.YtfjfmhkifaiakaaW.PrintMore
set_option linter.unusedVariables false
set_option linter.unusedSimpArgs false

theorem aw_take (md hi : Int) (l : List Int) (n : Nat) : ∀ j, j ≤ n → awAt md hi (l.take n) j = awAt md hi l j := by
  intro j
  induction j with
  | zero => intro _; rfl
  | succ j ih =>
    intro h
    show awN md hi (awAt md hi (l.take n) j) ((l.take n)[j]?.getD 0) = awN md hi (awAt md hi l j) (l[j]?.getD 0)
    rw [ih (by omega), List.getElem?_take_of_lt (by omega)]
theorem runL_take (md hi : Int) (l : List Int) (n : Nat) (hn : n ≤ l.length) : runL md hi (l.take n) = (runL md hi l).take n := by
  refine List.ext_getElem (by simp [runL_len]) fun j h1 h2 => ?_
  have hj : j < n := by rw [runL_len, List.length_take] at h1; omega
  have e1 : (runL md hi (l.take n))[j] = awAt md hi (l.take n) (j + 1) := by simp [runL, stTo]
  have e2 : ((runL md hi l).take n)[j] = awAt md hi l (j + 1) := by simp [runL, stTo]
  rw [e1, e2, aw_take md hi l n (j + 1) (by omega)]
theorem lv_nn (lo md hi x : Int) : 0 ≤ lvF lo md hi x := by
  unfold lvF
  (repeat' split) <;> omega
/-- the worst of a list, from a start -/
def wmx (lo md hi : Int) : Int → List Int → Int
  | a, [] => a
  | a, x :: l => wmx lo md hi (mx a (lvF lo md hi x)) l
theorem mx_le (a b : Int) : a ≤ mx a b ∧ b ≤ mx a b ∧ (mx a b = a ∨ mx a b = b) := by unfold mx; split <;> omega
theorem wmx_snoc (lo md hi : Int) (x : Int) : ∀ (l : List Int) (a : Int), wmx lo md hi a (l ++ [x]) = mx (wmx lo md hi a l) (lvF lo md hi x) := by
  intro l
  induction l with
  | nil => intro a; rfl
  | cons y l ih => intro a; exact ih _
theorem wmx_app (lo md hi : Int) (m : List Int) : ∀ (l : List Int) (a : Int), wmx lo md hi a (l ++ m) = wmx lo md hi (wmx lo md hi a l) m := by
  intro l
  induction l with
  | nil => intro a; rfl
  | cons y l ih => intro a; exact ih _
theorem wmx_from (lo md hi : Int) : ∀ (l : List Int) (a : Int), 0 ≤ a → wmx lo md hi a l = mx a (wmx lo md hi 0 l) ∧ 0 ≤ wmx lo md hi a l := by
  intro l
  induction l with
  | nil => intro a h; exact ⟨by unfold wmx mx; split <;> omega, h⟩
  | cons y l ih =>
    intro a h
    have hy := lv_nn lo md hi y
    have h1 := mx_le a (lvF lo md hi y)
    have h2 := mx_le 0 (lvF lo md hi y)
    have i1 := ih (mx a (lvF lo md hi y)) (by omega)
    have i2 := ih (mx 0 (lvF lo md hi y)) (by omega)
    refine ⟨?_, i1.2⟩
    show wmx lo md hi (mx a (lvF lo md hi y)) l = mx a (wmx lo md hi (mx 0 (lvF lo md hi y)) l)
    rw [i1.1, i2.1]
    generalize wmx lo md hi 0 l = z
    generalize lvF lo md hi y = q at *
    unfold mx
    (repeat' split) <;> omega
theorem ws_fst (lo md hi : Int) (l : List Int) : ∀ j, j ≤ l.length → (wsTo lo md hi l j).1 = wmx lo md hi 0 (l.take j) ∧ ((wsTo lo md hi l j).2 < 0 → (wsTo lo md hi l j).1 = 0) := by
  intro j
  induction j with
  | zero => intro _; exact ⟨rfl, fun _ => rfl⟩
  | succ j ih =>
    intro hj
    have hlt : j < l.length := by omega
    obtain ⟨i1, i2⟩ := ih (by omega)
    have hx : l[j]?.getD 0 = l[j] := by simp [hlt]
    have ht : l.take (j + 1) = l.take j ++ [l[j]] := by rw [List.take_add_one, List.getElem?_eq_getElem hlt]; rfl
    have hn := lv_nn lo md hi l[j]
    rw [wsTo, hx, ht, wmx_snoc, ← i1]
    by_cases h : (wsTo lo md hi l j).2 < 0 ∨ lvF lo md hi l[j] > (wsTo lo md hi l j).1
    · rw [if_pos h]
      refine ⟨?_, fun h2 => by simp only at h2; omega⟩
      simp only
      unfold mx
      rcases h with h | h
      · rw [i2 h]; split <;> omega
      · rw [if_pos (by omega)]
    · rw [if_neg h]
      exact ⟨by unfold mx; rw [if_neg (by omega)], fun h2 => absurd (Or.inl h2) h⟩
theorem parts_l0 (lo md hi : Int) (h0 : 0 ≤ lo) (h1 : lo < md) (h2 : md < hi) (h3 : hi ≤ 256) (l : List Int) (hl : l.length ≤ 40) (hg : ∀ x ∈ l, 0 ≤ x ∧ x < 20) (c : Nat) (hc : c ≤ l.length) : ∀ (n j k : Nat), j + n = l.length → n + 200 ≤ k →
    headgatelaw32_PressureParts.l0 k l (c : Int) (runL md hi l) (awAt md hi l j) (j : Int) lo md hi = some true := by
  intro n
  induction n with
  | zero =>
    intro j k hj hk
    obtain ⟨k, rfl⟩ : ∃ m, k = m + 1 := ⟨k - 1, by omega⟩
    have qa : askE lo md hi l = 0 := ask_good h0 h1 h2 h3 l (by omega) (fun x hx => by have := hg x hx; omega)
    have qt : askE lo md hi (l.take c) = 0 := ask_good h0 h1 h2 h3 _ (by simp; omega) (fun x hx => by have := hg x (List.mem_of_mem_take hx); omega)
    have qd : askE lo md hi (l.drop c) = 0 := ask_good h0 h1 h2 h3 _ (by simp; omega) (fun x hx => by have := hg x (List.mem_of_mem_drop hx); omega)
    rw [headgatelaw32_PressureParts.l0, if_neg (by omega), pWorst lo md hi l (by omega) _ (by omega)]
    simp only [Option.bind_some]
    rw [if_pos (by omega), if_pos (by omega), Int.toNat_natCast, pWorst lo md hi (l.take c) (by simp; omega) _ (by simp; omega), pWorst lo md hi (l.drop c) (by simp; omega) _ (by simp; omega)]
    simp only [Option.bind_some]
    unfold wstE
    rw [if_pos qa, if_pos qt, if_pos qd]
    simp only [if_true]
    have e1 := (ws_fst lo md hi l l.length (Nat.le_refl _)).1
    have e2 := (ws_fst lo md hi (l.take c) (l.take c).length (Nat.le_refl _)).1
    have e3 := (ws_fst lo md hi (l.drop c) (l.drop c).length (Nat.le_refl _)).1
    rw [List.take_length] at e1 e2 e3
    have e4 : wmx lo md hi 0 l = mx (wmx lo md hi 0 (l.take c)) (wmx lo md hi 0 (l.drop c)) := by
      have := wmx_app lo md hi (l.drop c) (l.take c) 0
      rw [List.take_append_drop] at this
      rw [this]
      exact (wmx_from lo md hi (l.drop c) _ (wmx_from lo md hi (l.take c) 0 (by omega)).2).1
    rw [e1, e2, e3, e4, if_pos rfl, awake_k _ (by omega)]
    rfl
  | succ n ih =>
    intro j k hj hk
    obtain ⟨k, rfl⟩ : ∃ m, k = m + 1 := ⟨k - 1, by omega⟩
    have hlt : j < l.length := by omega
    have hn := ih (j + 1) k (by omega) (by omega)
    have hx := hg l[j] (List.getElem_mem hlt)
    have hxx : l[j]?.getD 0 = l[j] := by simp [hlt]
    have hd : awAt md hi l (j + 1) = awN md hi (awAt md hi l j) l[j] := by show awN md hi (awAt md hi l j) (l[j]?.getD 0) = _; rw [hxx]
    rw [headgatelaw32_PressureParts.l0, if_pos (by omega), if_pos (by omega), rd_nat l j hlt, pNext _ _ _ _ _ _ (by omega)]
    simp only [Option.bind_some]
    rw [nex_good h0 h1 h2 h3 _ _ (by omega) (by omega)]
    simp only [if_true]
    rw [runL_len, if_pos (by omega), rd_bool md hi l j hlt, ← hd, if_neg (by simp), w64s hlt (by omega)]
    exact hn
theorem pj1 (k : Nat) (h : List Int) (c : Int) (x : List Bool) (b : Bool) (lo md hi : Int) : headgatelaw32_PressureParts.j1 (k + 1) h c x b lo md hi = headgatelaw32_PressureParts.l0 k h c x b c lo md hi := by
  rw [headgatelaw32_PressureParts.j1]
theorem pj0 (k : Nat) (h : List Int) (c : Int) (x y : List Bool) (lo md hi : Int) : headgatelaw32_PressureParts.j0 (k + 1) h c x y false lo md hi =
    (if c > 0 then (if 0 ≤ (wrap64 (c - 1)) then (if (wrap64 (c - 1)) < (y.length : Int) then (headgatelaw32_PressureParts.j1 k h c x (rdOf false y (wrap64 (c - 1))) lo md hi) else (none)) else (none)) else (headgatelaw32_PressureParts.j1 k h c x false lo md hi)) := by
  rw [headgatelaw32_PressureParts.j0, if_neg (by simp)]
theorem parts_j0 (lo md hi : Int) (h0 : 0 ≤ lo) (h1 : lo < md) (h2 : md < hi) (h3 : hi ≤ 256) (h : List Int) (hl : h.length ≤ 40) (hg : ∀ x ∈ h, 0 ≤ x ∧ x < 20) (c : Nat) (hc : c ≤ h.length) (K : Nat) (hK : 400 ≤ K) :
    headgatelaw32_PressureParts.j0 (K + 1 + 1) h (c : Int) (runL md hi h) ((runL md hi h).take c) false lo md hi = some true := by
  rw [pj0]
  have fin : headgatelaw32_PressureParts.j1 (K + 1) h (c : Int) (runL md hi h) (awAt md hi h c) lo md hi = some true := by
    rw [pj1]
    exact parts_l0 lo md hi h0 h1 h2 h3 h hl hg c hc (h.length - c) c K (by omega) (by omega)
  by_cases hz : (c : Int) > 0
  · have hw2 : wrap64 ((c : Int) - 1) = ((c - 1 : Nat) : Int) := by unfold wrap64; omega
    rw [if_pos hz, hw2, if_pos (by omega), if_pos (by rw [List.length_take, runL_len]; omega)]
    have e : rdOf false ((runL md hi h).take c) ((c - 1 : Nat) : Int) = awAt md hi h c := by
      rw [← runL_take md hi h c (by omega), rd_bool md hi (h.take c) (c - 1) (by simp; omega), show c - 1 + 1 = c by omega, aw_take md hi h c c (Nat.le_refl _)]
    rw [e]
    exact fin
  · rw [if_neg hz]
    obtain rfl : c = 0 := by omega
    have e : awAt md hi h 0 = false := rfl
    rw [e] at fin
    exact fin
theorem bind_eq {α β : Type} {x : Option α} {f : α → Option β} {a : α} {r : Option β} (h : x = some a) (k : f a = r) : x.bind f = r := by rw [h]; exact k
theorem ite_eq {α : Type} {p : Prop} [Decidable p] {x y r : α} (h : p) (k : x = r) : (if p then x else y) = r := by rw [if_pos h]; exact k
theorem parts_pure : headgatelaw32_PressureParts.Pure := by
  intro n l cut wn hm hm' hx wc
  obtain ⟨n0, n1⟩ := wf_i wn
  obtain ⟨c0, c1⟩ := wf_i wc
  clear hm hm' wn wc
  obtain ⟨lo, md, hi, hmk, h0, h1, h2, h3⟩ := made_f n n0 n1
  obtain ⟨K, hK⟩ : ∃ K : Nat, 400 ≤ K := ⟨400, Nat.le_refl _⟩
  obtain ⟨K2, hK2⟩ : ∃ K2 : Nat, K2 = K + 1 + 1 := ⟨_, rfl⟩
  have hK3 : 402 ≤ K2 := by omega
  obtain ⟨h, hh, hl, hg⟩ := hist_f l hx K2 (by omega)
  have hw : wrap64 ((h.length : Int) + 1) = (h.length : Int) + 1 := by unfold wrap64; omega
  have m1 : (1 : Int) ≤ (h.length : Int) + 1 := by clear hK hK2 hK3 hh hmk hw hg; omega
  have m2 : (h.length : Int) + 1 ≤ 1000000 := by clear hK hK2 hK3 hh hmk hw hg; omega
  obtain ⟨ci, hci, r0, r1⟩ := mod_f cut ((h.length : Int) + 1) c0 c1 m1 m2
  obtain ⟨c, rfl⟩ : ∃ c : Nat, ci = (c : Int) := ⟨ci.toNat, by omega⟩
  have qa : askE lo md hi h = 0 := ask_good h0 h1 h2 (by omega) h (by omega) (fun x hx => by have := hg x hx; omega)
  have qt : askE lo md hi (h.take c) = 0 := ask_good h0 h1 h2 (by omega) _ (by simp; omega) (fun x hx => by have := hg x (List.mem_of_mem_take hx); omega)
  have J := parts_j0 lo md hi h0 h1 h2 (by omega) h (by omega) hg c (by omega) K hK
  rw [← hK2] at J
  have R1 := pRun lo md hi h (by omega) K2 (by omega)
  have R2 := pRun lo md hi (h.take c) (by simp; omega) K2 (by simp; omega)
  have S := sameBools ((runL md hi h).take c) (by simp [runL_len]; omega) K2 (by simp [runL_len]; omega)
  have T := runL_take md hi h c (by omega)
  have hci' : headgatekit_Mod.f cut (wrap64 ((h.length : Int) + 1)) = some (c : Int) := by rw [hw]; exact hci
  have R2' : pressure_Run.f K2 lo md hi (h.take (c : Int).toNat) = some (runE lo md hi (h.take c)) := by rw [Int.toNat_natCast]; exact R2
  have S' : headgatekit_SameBools.f K2 (runL md hi (h.take c)) ((runL md hi h).take (c : Int).toNat) = some true := by rw [Int.toNat_natCast, T]; exact S
  have J' : headgatelaw32_PressureParts.j0 K2 h (c : Int) (runL md hi h) (runL md hi (h.take c)) (!true) lo md hi = some true := by rw [T]; exact J
  have L := runL_len md hi h
  have q1 : (0 : Int) ≤ (c : Int) := Int.natCast_nonneg c
  have q2 : (c : Int) ≤ (h.length : Int) := by clear J R1 R2 S T L hK hK2 hK3 hh hmk hw hg hci; omega
  have q3 : ((runL md hi h).length : Int) = (h.length : Int) := by rw [L]
  have q4 : (c : Int) ≤ ((runL md hi h).length : Int) := by rw [L]; exact q2
  refine ⟨K2, ?_⟩
  clear hK2 hK3 hK
  unfold headgatelaw32_PressureParts.f
  refine bind_eq hmk ?_
  refine bind_eq hh ?_
  refine bind_eq hci' ?_
  refine bind_eq R1 ?_
  refine ite_eq q1 (ite_eq q2 ?_)
  refine bind_eq R2' ?_
  have g1 : (runE lo md hi h) = (runL md hi h, 0) := by unfold runE; rw [if_pos qa]
  have g2 : (runE lo md hi (h.take c)) = (runL md hi (h.take c), 0) := by unfold runE; rw [if_pos qt]
  rw [g1, g2]
  refine ite_eq rfl (ite_eq rfl (ite_eq q3 (ite_eq q4 ?_)))
  refine bind_eq S' ?_
  exact J'
end Go.Proofs.Ytfjfmhkifaiakaa.PA
