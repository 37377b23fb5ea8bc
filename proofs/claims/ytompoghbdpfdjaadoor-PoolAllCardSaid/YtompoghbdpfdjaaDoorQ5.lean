/- The plain law PoolAll. Conditions: enough rounds. -/
import Derived.Test.YtompoghbdpfdjaaDoorQ6
import Derived.Test.YtompoghbdpfdjaaDoorPAx11
namespace Go.Proofs.YtompoghbdpfdjaaDoor.PA
open Go.RowKit Go.Proofs.YtompoghbdpfdjaaDoorW.PrintWords Go.Proofs.YtompoghbdpfdjaaDoorW.PrintLast Go.Proofs.YtompoghbdpfdjaaDoorW.PrintMore
set_option linter.unusedVariables false
set_option linter.unusedSimpArgs false

theorem drop_VL {sz : Int} (h1 : 1 ≤ sz) (h2 : sz ≤ 32) (i : Nat) : VL sz ((upto sz.toNat).drop i) :=
  ⟨h1, h2, fun x hx => by have := upto_mem.1 (List.mem_of_mem_drop hx); omega, (upto_sorted _).sublist (List.drop_sublist _ _)⟩
theorem upto_drop (n i : Nat) (h : i < n) : (upto n).drop i = (i : Int) :: (upto n).drop (i + 1) := by
  rw [List.drop_eq_getElem_cons (by rw [upto_len]; exact h)]
  congr 1
  simp [upto]
def frA (i : Nat) : Int := if i = 0 then 0 else ((i : Int) - 1) / 8
def plA (i : Nat) : Int := if i = 0 then -1 else ((i : Int) - 1) % 8
theorem all_l0 (n : Nat) (h1 : 1 ≤ n) (h2 : n ≤ 32) : ∀ (m i k : Nat), i + m = n → m + 1 ≤ k →
    headgatelaw14_PoolAll.l0 k (n : Int) true (((n : Int) - 1) / 8 + 1) (frA i) (plA i) (i : Int) (n : Int) ((upto n).drop i) = some true := by
  intro m
  induction m with
  | zero =>
    intro i k hi hk
    obtain ⟨k, rfl⟩ : ∃ m, k = m + 1 := ⟨k - 1, by omega⟩
    obtain rfl : i = n := by omega
    rw [headgatelaw14_PoolAll.l0, if_neg (by omega), List.drop_of_length_le (by rw [upto_len]; omega)]
    have hv : VL (i : Int) [] := ⟨by omega, by omega, by simp, List.Pairwise.nil⟩
    refine bind_eq (show pool_Take.f k (i : Int) [] = some (0, [], 0, 5) from (onE_of (by simp) _).trans (by unfold takE; rw [if_pos (chk_VL.2 hv)]; rfl)) ?_
    refine ite_eq rfl (ite_eq rfl ?_)
    have e : frA i = wrap64 (((i : Int) - 1) / 8 + 1 - 1) := by
      unfold frA wrap64
      rw [if_neg (by omega)]
      omega
    rw [e]
    simp
  | succ m ih =>
    intro i k hi hk
    obtain ⟨k, rfl⟩ : ∃ m, k = m + 1 := ⟨k - 1, by omega⟩
    have hn := ih (i + 1) k (by omega) (by omega)
    have hw : wrap64 ((i : Int) + 1) = ((i + 1 : Nat) : Int) := by unfold wrap64; omega
    have hv := drop_VL (sz := (n : Int)) (by omega) (by omega) i
    rw [Int.toNat_natCast] at hv
    rw [upto_drop n i (by omega)] at hv ⊢
    have hc := chk_VL.2 hv
    have hl := hv.len
    rw [headgatelaw14_PoolAll.l0, if_pos (by omega)]
    refine bind_eq (show pool_Take.f k (n : Int) _ = some ((n : Int), (upto n).drop (i + 1), (i : Int), 0) from (onE_of (by omega) _).trans (by unfold takE; rw [if_pos hc]; rfl)) ?_
    have ha := ask_VL hv (i : Int) (by omega) (by omega)
    refine bind_eq (show pool_Home.f k (n : Int) _ (i : Int) = some ((i : Int) / 8, (i : Int) % 8, 0) from (onE_of (by omega) _).trans (by unfold homE; rw [if_pos ha])) ?_
    have f1 : frA (i + 1) = (i : Int) / 8 := by unfold frA; rw [if_neg (by omega)]; congr 1; omega
    have p1 : plA (i + 1) = (i : Int) % 8 := by unfold plA; rw [if_neg (by omega)]; congr 1; omega
    rw [f1, p1] at hn
    refine ite_eq rfl (ite_eq rfl (ite_eq rfl ?_))
    have g0 : ¬ (i : Int) / 8 < frA i := by unfold frA; split <;> omega
    refine ite_ne g0 ?_
    have last : (if (i : Int) / 8 ≥ (((n : Int) - 1) / 8 + 1) then (some false) else (if (i : Int) % 8 < 0 then (some false) else (if (i : Int) % 8 > 7 then (some false) else (headgatelaw14_PoolAll.l0 k (n : Int) true (((n : Int) - 1) / 8 + 1) ((i : Int) / 8) ((i : Int) % 8) (wrap64 ((i : Int) + 1)) (n : Int) ((upto n).drop (i + 1)))))) = some true := by
      rw [if_neg (by omega), if_neg (by omega), if_neg (by omega), hw]
      exact hn
    by_cases c : (i : Int) / 8 = frA i
    · refine ite_eq c (ite_ne ?_ last)
      unfold frA at c
      unfold plA
      show ¬ (i : Int) % 8 ≤ _
      split <;> rename_i hz
      · omega
      · rw [if_neg hz] at c; omega
    · exact ite_ne c last
theorem all_pure : headgatelaw14_PoolAll.Pure := by
  intro a wa
  obtain ⟨n0, n1⟩ := wf_i wa
  obtain ⟨r, hr, r0, r1⟩ := mod_f a 32 n0 n1 (by omega) (by omega)
  have hw : wrap64 (1 + r) = 1 + r := by unfold wrap64; omega
  obtain ⟨n, hn⟩ : ∃ n : Nat, 1 + r = (n : Int) := ⟨(1 + r).toNat, by omega⟩
  refine ⟨101, ?_⟩
  unfold headgatelaw14_PoolAll.f
  refine bind_eq rfl ?_
  refine bind_eq hr ?_
  rw [hw, hn]
  refine bind_eq (show pool_New.f 101 (n : Int) = some ((n : Int), upto n, 0) from by unfold pool_New.f newE; rw [if_neg (by omega), Int.toNat_natCast]) ?_
  refine bind_eq (show pool_Frames.f (n : Int) = some (((n : Int) - 1) / 8 + 1, 0) from by unfold pool_Frames.f frmE; rw [if_neg (by omega)]) ?_
  refine ite_eq rfl ?_
  show headgatelaw14_PoolAll.j0 (100 + 1) _ _ _ _ _ _ = _
  rw [headgatelaw14_PoolAll.j0]
  refine ite_ne (show ¬ ((0 : Int) != 0) = true by decide) ?_
  have := all_l0 n (by omega) (by omega) n 0 100 (by omega) (by omega)
  rw [List.drop_zero] at this
  exact this
end Go.Proofs.YtompoghbdpfdjaaDoor.PA
