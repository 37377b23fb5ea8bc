/- Check in closed form. Conditions: lists of at most 1000 numbers, enough rounds. -/
import Derived.Test.YtompoghbdpfdjaaDoorM5
import Derived.Test.YtompoghbdpfdjaaDoorPAx2
namespace Go.Proofs.YtompoghbdpfdjaaDoor.PA
open Go.RowKit Go.Proofs.YtompoghbdpfdjaaDoorW.PrintWords Go.Proofs.YtompoghbdpfdjaaDoorW.PrintLast Go.Proofs.YtompoghbdpfdjaaDoorW.PrintMore
set_option linter.unusedVariables false
set_option linter.unusedSimpArgs false

theorem rd_opt (l : List Int) (j : Nat) : rd l (j : Int) = l[j]?.getD 0 := by simp [rd]
theorem w64s {j n : Nat} (h : j < n) (hn : n ≤ 1000000) : wrap64 ((j : Int) + 1) = ((j + 1 : Nat) : Int) := by unfold wrap64; omega
theorem w64p {j n : Nat} (h0 : 0 < j) (h : j < n) (hn : n ≤ 1000000) : wrap64 ((j : Int) - 1) = ((j - 1 : Nat) : Int) := by unfold wrap64; omega
theorem pchk_j2 (sz : Int) (l : List Int) (hl : l.length ≤ 1000) (i k : Nat) (hi : i < l.length) (b : Bool) (q : Int × Int) (hb : b = true ↔ (l[i]?.getD 0 < 0 ∨ sz ≤ l[i]?.getD 0))
    (hq : pool_Check.l0 k l (l.length : Int) ((i + 1 : Nat) : Int) sz l = some q) :
    pool_Check.j2 (k + 1) (i : Int) (l[i]?.getD 0) l (l.length : Int) (i : Int) b sz l = some (if l[i]?.getD 0 < 0 ∨ sz ≤ l[i]?.getD 0 then (2, (i : Int)) else if 0 < i ∧ l[i]?.getD 0 ≤ l[i - 1]?.getD 0 then (8, (i : Int)) else q) := by
  rw [pool_Check.j2]
  by_cases c : l[i]?.getD 0 < 0 ∨ sz ≤ l[i]?.getD 0
  · rw [if_pos (hb.2 c), if_pos c]
  · rw [if_neg (fun h => c (hb.1 h)), if_neg c, w64s hi (by omega)]
    by_cases z : 0 < i
    · rw [if_pos (by omega), w64p z hi (by omega), if_pos (by omega), if_pos (by omega), rd_opt]
      by_cases d : l[i]?.getD 0 ≤ l[i - 1]?.getD 0
      · rw [if_pos d, if_pos ⟨z, d⟩]
      · rw [if_neg d, if_neg (fun h => d h.2)]; exact hq
    · rw [if_neg (by omega), if_neg (fun h => z h.1)]; exact hq
theorem pchk_l0 (sz : Int) (l : List Int) (hl : l.length ≤ 1000) : ∀ (n i k : Nat), i + n = l.length → 2 * n + 1 ≤ k → pool_Check.l0 k l (l.length : Int) (i : Int) sz l = some (chkL sz l n i) := by
  intro n
  induction n with
  | zero =>
    intro i k hi hk
    obtain ⟨k, rfl⟩ : ∃ m, k = m + 1 := ⟨k - 1, by omega⟩
    rw [pool_Check.l0, if_neg (by omega)]; rfl
  | succ n ih =>
    intro i k hi hk
    obtain ⟨k, rfl⟩ : ∃ m, k = m + 1 + 1 := ⟨k - 2, by omega⟩
    have hn := ih (i + 1) k (by omega) (by omega)
    rw [pool_Check.l0, if_pos (by omega), if_pos (by omega), if_pos (by omega), rd_opt, chkL]
    by_cases c : l[i]?.getD 0 < 0
    · rw [if_pos c]
      exact pchk_j2 sz l hl i k (by omega) true _ ⟨fun _ => .inl c, fun _ => rfl⟩ hn
    · rw [if_neg c]
      exact pchk_j2 sz l hl i k (by omega) _ _ (by rw [decide_eq_true_iff]; exact ⟨fun h => .inr h, fun h => h.resolve_left c⟩) hn
theorem pchk (sz : Int) (l : List Int) (hl : l.length ≤ 1000) (k : Nat) (hk : 2 * l.length + 2 ≤ k) : pool_Check.f k sz l = some (chkE sz l) := by
  obtain ⟨k, rfl⟩ : ∃ m, k = m + 1 := ⟨k - 1, by omega⟩
  unfold pool_Check.f chkE
  by_cases c : sz < 1
  · rw [if_pos c, pool_Check.j0, if_pos rfl, if_pos (.inl c)]
  · rw [if_neg c, pool_Check.j0]
    by_cases d : sz > 32
    · rw [if_pos (by simpa using d), if_pos (.inr (by omega))]
    · rw [if_neg (by simpa using d), if_neg (by omega)]
      exact pchk_l0 sz l hl l.length 0 k (by omega) (by omega)
end Go.Proofs.YtompoghbdpfdjaaDoor.PA
