import Derived.Test.YtaklhokabnjjcaaDoorR
namespace Go.Proofs.YtaklhokabnjjcaaDoor
open Go.RowKit
set_option linter.unusedVariables false
set_option linter.unusedSimpArgs false

theorem six_of {s r c : Int} (h : chk s r c = 0) : s = 1 ∨ s = 2 ∨ s = 3 ∨ s = 4 ∨ s = 5 ∨ s = 6 := by
  obtain ⟨s0, s1, _, _⟩ := chk_bounds h
  omega
theorem nx_ok {s r c k p : Int} (h : chk s r c = 0) (hn : nE s r c k p = 0) : wrongE s r k p = 0 ∧ nS s r c k p = dS s r k ∧ nR s r c k p = dR s r k ∧ nC s r c k p = dC s c k p := by
  have hw : wrongE s r k p = 0 := by
    unfold nE at hn
    rwa [if_pos h] at hn
  have ho : okN s r c k p := ⟨h, hw⟩
  exact ⟨hw, if_pos ho, if_pos ho, if_pos ho⟩
theorem nx_of {s r c k p : Int} (h : chk s r c = 0) (hw : wrongE s r k p = 0) : nE s r c k p = 0 ∧ nS s r c k p = dS s r k ∧ nR s r c k p = dR s r k ∧ nC s r c k p = dC s c k p := by
  have ho : okN s r c k p := ⟨h, hw⟩
  exact ⟨(if_pos h).trans hw, if_pos ho, if_pos ho, if_pos ho⟩
theorem nE_eq {s r c k p : Int} (h : chk s r c = 0) : nE s r c k p = wrongE s r k p := if_pos h

/-- claim, then drop -/
theorem claim_drop {s r c : Int} (h : chk s r c = 0) (hn : nE s r c 4 3 = 0) :
    nE (nS s r c 4 3) (nR s r c 4 3) (nC s r c 4 3) 5 0 = 0 ∧ nS (nS s r c 4 3) (nR s r c 4 3) (nC s r c 4 3) 5 0 = s ∧ nR (nS s r c 4 3) (nR s r c 4 3) (nC s r c 4 3) 5 0 = r ∧ nC (nS s r c 4 3) (nR s r c 4 3) (nC s r c 4 3) 5 0 = c := by
  have h2 := chk_next h hn
  obtain ⟨hw, e1, e2, e3⟩ := nx_ok h hn
  rw [e1, e2, e3]
  rw [e1, e2, e3] at h2
  have hw2 : wrongE (dS s r 4) (dR s r 4) 5 0 = 0 := by
    rcases six_of h with rfl | rfl | rfl | rfl | rfl | rfl <;> simp [wrongE, posE] at hw <;> simp [chk] at h <;> simp [wrongE, posE, dS, dR] <;> omega
  obtain ⟨f0, f1, f2, f3⟩ := nx_of h2 hw2
  rw [f0, f1, f2, f3]
  clear f0 f1 f2 f3 h2 hw2 e1 e2 e3 hn
  rcases six_of h with rfl | rfl | rfl | rfl | rfl | rfl <;> simp [wrongE, posE] at hw <;> simp [chk] at h <;> simp [dS, dR, dC] <;> omega
/-- share, then lose -/
theorem share_lose {s r c : Int} (h : chk s r c = 0) (hn : nE s r c 1 0 = 0) :
    nE (nS s r c 1 0) (nR s r c 1 0) (nC s r c 1 0) 2 0 = 0 ∧ nS (nS s r c 1 0) (nR s r c 1 0) (nC s r c 1 0) 2 0 = s ∧ nR (nS s r c 1 0) (nR s r c 1 0) (nC s r c 1 0) 2 0 = r ∧ nC (nS s r c 1 0) (nR s r c 1 0) (nC s r c 1 0) 2 0 = c ∧ nS s r c 1 0 = s := by
  have h2 := chk_next h hn
  obtain ⟨hw, e1, e2, e3⟩ := nx_ok h hn
  rw [e1, e2, e3]
  rw [e1, e2, e3] at h2
  have hw2 : wrongE (dS s r 1) (dR s r 1) 2 0 = 0 := by
    rcases six_of h with rfl | rfl | rfl | rfl | rfl | rfl <;> simp [wrongE, posE] at hw <;> simp [chk] at h <;> simp [wrongE, posE, dS, dR] <;> omega
  obtain ⟨f0, f1, f2, f3⟩ := nx_of h2 hw2
  rw [f0, f1, f2, f3]
  clear f0 f1 f2 f3 h2 hw2 e1 e2 e3 hn
  rcases six_of h with rfl | rfl | rfl | rfl | rfl | rfl <;> simp [wrongE, posE] at hw <;> simp [chk] at h <;> simp [dS, dR, dC] <;> omega
/-- complete -/
theorem complete_is {s r c : Int} (h : chk s r c = 0) (hn : nE s r c 6 0 = 0) :
    (0 < c ∧ nS s r c 6 0 = 5 ∧ nR s r c 6 0 = r - 1 ∧ nC s r c 6 0 = 0) ∨ (c = 0 ∧ 0 < r ∧ nS s r c 6 0 = 4 ∧ nR s r c 6 0 = r ∧ nC s r c 6 0 = 0) ∨ (c = 0 ∧ r = 0 ∧ nS s r c 6 0 = 6) := by
  obtain ⟨hw, e1, e2, e3⟩ := nx_ok h hn
  rw [e1, e2, e3]
  rcases six_of h with rfl | rfl | rfl | rfl | rfl | rfl <;> simp [wrongE, posE] at hw <;> simp [chk] at h <;> simp [dS, dR, dC] <;> omega

def need (s r : Int) : Int := if s = 6 then 0 else if s = 3 then r + 2 else if s = 2 then r + 1 else r
def kds : List Int := [5, 2, 6]
theorem need_start {s r c : Int} (h : chk s r c = 0) : need s r ≤ r + 2 := by
  obtain ⟨_, _, _, _⟩ := chk_bounds h
  unfold need
  (repeat' split) <;> omega
theorem need_pos {s r c : Int} (h : chk s r c = 0) : 0 ≤ need s r := by
  obtain ⟨_, _, _, _⟩ := chk_bounds h
  unfold need
  (repeat' split) <;> omega
theorem need_end {s r c : Int} (h : chk s r c = 0) (h5 : s ≠ 5) (hn : need s r ≤ 0) : s = 6 := by
  rcases six_of h with rfl | rfl | rfl | rfl | rfl | rfl <;> simp [need] at hn <;> simp [chk] at h <;> omega
theorem need_step {s r c : Int} (h : chk s r c = 0) (h5 : s ≠ 5) (h6 : s ≠ 6) (j : Nat) (hj : j < kds.length) (hp : ∀ i (hi : i < j) (h' : i < kds.length), nE s r c kds[i] 0 ≠ 0) (hn : nE s r c kds[j] 0 = 0) :
    chk (nS s r c kds[j] 0) (nR s r c kds[j] 0) (nC s r c kds[j] 0) = 0 ∧ nS s r c kds[j] 0 ≠ 5 ∧ need (nS s r c kds[j] 0) (nR s r c kds[j] 0) + 1 ≤ need s r := by
  have h2 := chk_next h hn
  refine ⟨h2, ?_⟩
  obtain ⟨hw, e1, e2, e3⟩ := nx_ok h hn
  rw [e1, e2]
  clear e1 e2 e3 h2 hn
  have hj' : j = 0 ∨ j = 1 ∨ j = 2 := by simp [kds] at hj; omega
  rcases hj' with rfl | rfl | rfl
  · rcases six_of h with rfl | rfl | rfl | rfl | rfl | rfl <;> simp [kds, wrongE, posE] at hw <;> simp [chk] at h <;> simp [kds, dS, dR, need] <;> omega
  · have p0 := hp 0 (by omega) (by simp [kds])
    rw [nE_eq h] at p0
    rcases six_of h with rfl | rfl | rfl | rfl | rfl | rfl <;> simp [kds, wrongE, posE] at hw p0 <;> simp [chk] at h <;> simp [kds, dS, dR, need] <;> (repeat' split) <;> omega
  · have p0 := hp 0 (by omega) (by simp [kds])
    have p1 := hp 1 (by omega) (by simp [kds])
    rw [nE_eq h] at p0 p1
    rcases six_of h with rfl | rfl | rfl | rfl | rfl | rfl <;> simp [kds, wrongE, posE] at hw p0 p1 <;> simp [chk] at h <;> simp [kds, dS, dR, need] <;> (repeat' split) <;> omega
theorem need_some {s r c : Int} (h : chk s r c = 0) (h5 : s ≠ 5) (h6 : s ≠ 6) (hp : ∀ i (h' : i < kds.length), nE s r c kds[i] 0 ≠ 0) : False := by
  have p0 := hp 0 (by simp [kds])
  have p1 := hp 1 (by simp [kds])
  have p2 := hp 2 (by simp [kds])
  rw [nE_eq h] at p0 p1 p2
  rcases six_of h with rfl | rfl | rfl | rfl | rfl | rfl <;> simp [kds, wrongE, posE] at p0 p1 p2 <;> simp [chk] at h <;> omega
end Go.Proofs.YtaklhokabnjjcaaDoor
