import Derived.Test.YtgibkebdkhildaaM
namespace Go.Proofs.Ytgibkebdkhildaa
open Go.RowKit
set_option linter.unusedVariables false

/-- a byte of what is put -/
theorem pu_byte (C : List Int) (a : Nat) (v : Int) (n j : Nat) (hj : j < 64) : spB (puF C a v n) j = if a ≤ j ∧ j < a + n then v / 2 ^ (8 * (j - a)) % 256 else spB C j := by
  unfold puF
  rw [jn_spB (pbTo_byte C a v n) (pbTo_len _ _ _ _) j hj]
  simp [pbTo, hj]
theorem by_one (C : List Int) (i : Nat) : byTo C i 1 = spB C i := by simp [byTo]
theorem by_digit (C : List Int) (a k r : Nat) (h : r < k) : byTo C a k / 256 ^ r % 256 = spB C (a + r) := by
  induction k with
  | zero => omega
  | succ k ih =>
    obtain ⟨s0, s1⟩ := spB_lt C (a + k)
    obtain ⟨l0, l1⟩ := byTo_lt C a k
    show (byTo C a k + spB C (a + k) * 256 ^ k) / 256 ^ r % 256 = _
    by_cases hr : r = k
    · subst hr
      rw [Int.add_mul_ediv_right _ _ (Int.ne_of_gt (p256 r)), Int.ediv_eq_zero_of_lt l0 l1, Int.zero_add]
      exact Int.emod_eq_of_lt s0 s1
    · rw [← ih (by omega)]
      obtain ⟨m, rfl⟩ : ∃ m, k = r + 1 + m := ⟨k - r - 1, by omega⟩
      generalize byTo C a (r + 1 + m) = J
      generalize spB C (a + (r + 1 + m)) = b
      have e : b * (256 : Int) ^ (r + 1 + m) = (b * 256 ^ m * 256) * 256 ^ r := by
        rw [Int.pow_add, Int.pow_succ]
        generalize (256 : Int) ^ r = P
        generalize (256 : Int) ^ m = Q
        rw [Int.mul_assoc b Q 256, Int.mul_assoc b (Q * 256) P, Int.mul_comm Q 256, Int.mul_comm P 256, Int.mul_assoc 256 P Q, Int.mul_assoc 256 Q P, Int.mul_comm P Q]
      rw [e, Int.add_mul_ediv_right _ _ (Int.ne_of_gt (p256 r)), Int.add_mul_emod_self_right]
/-- what is there, put again -/
theorem pu_again (D : List Int) (hD : D.length = 8) (hw : ∀ x ∈ D, 0 ≤ x ∧ x ≤ 18446744073709551615) (a n : Nat) : puF D a (byTo D a n) n = D := by
  have h : pbTo D a (byTo D a n) n = spF D := by
    unfold pbTo spF
    apply List.map_congr_left
    intro j _
    by_cases h : a ≤ j ∧ j < a + n
    · rw [if_pos h, ← pw, by_digit D a n (j - a) (by omega), show a + (j - a) = j by omega]
    · rw [if_neg h]
  unfold puF
  rw [h, sp_jn D hD hw]
theorem by_put (C : List Int) (a n : Nat) (v : Int) (v0 : 0 ≤ v) (h : a + n ≤ 64) (k : Nat) (hk : k ≤ n) : byTo (puF C a v n) a k = v % 256 ^ k := by
  induction k with
  | zero => simp [byTo, Int.emod_one]
  | succ k ih =>
    show byTo (puF C a v n) a k + spB (puF C a v n) (a + k) * 256 ^ k = _
    rw [ih (by omega), pu_byte C a v n (a + k) (by omega), if_pos (by omega), show a + k - a = k by omega, ← pw, Int.pow_succ]
    obtain ⟨m, rfl⟩ := Int.eq_ofNat_of_zero_le v0
    have h := Nat.mod_mul (x := m) (a := 256 ^ k) (b := 256)
    have e : ((256 ^ k : Nat) : Int) = 256 ^ k := Int.natCast_pow 256 k
    have h' := congrArg (Int.ofNat) h
    simp only [Int.ofNat_eq_natCast, Int.natCast_add, Int.natCast_mul, Int.natCast_emod, Int.natCast_ediv, e] at h'
    rw [show ((256 : Nat) : Int) = 256 from rfl] at h'
    rw [h', Int.mul_comm (256 ^ k)]
theorem sg_shl {x : Int} {n : Nat} (n0 : 1 ≤ n) (n1 : n ≤ 8) (x0 : 0 ≤ x) (x1 : x < 256 ^ n) : IntKind.u64.wrap (IntKind.u64.wrap (sgF x n) * 2 ^ (64 - 8 * n)) = IntKind.u64.wrap (x * 2 ^ (64 - 8 * n)) := by
  rcases (show n = 1 ∨ n = 2 ∨ n = 3 ∨ n = 4 ∨ n = 5 ∨ n = 6 ∨ n = 7 ∨ n = 8 by omega) with rfl | rfl | rfl | rfl | rfl | rfl | rfl | rfl <;> simp at x1 <;> simp [sgF, IntKind.wrap_u64, wrap64] <;> omega
end Go.Proofs.Ytgibkebdkhildaa
