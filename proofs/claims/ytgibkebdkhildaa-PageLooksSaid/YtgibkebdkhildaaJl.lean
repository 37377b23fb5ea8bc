import Derived.Test.YtgibkebdkhildaaJ
namespace Go.Proofs.Ytgibkebdkhildaa
open Go.RowKit
set_option linter.unusedVariables false

theorem p256 (k : Nat) : (0 : Int) < 256 ^ k := Int.pow_pos (by omega)
/-- a digit of the joined bytes -/
theorem jn_digit {B : List Int} (hB : ∀ x ∈ B, 0 ≤ x ∧ x < 256) (i k r : Nat) (h : r < k) (hlen : 8 * i + k ≤ B.length) : jnW B i k / 256 ^ r % 256 = B.getD (8 * i + r) 0 := by
  induction k with
  | zero => omega
  | succ k ih =>
    have hs : 0 ≤ B.getD (8 * i + k) 0 ∧ B.getD (8 * i + k) 0 < 256 := by
      rw [List.getD_eq_getElem?_getD, List.getElem?_eq_getElem (show 8 * i + k < B.length by omega)]
      exact hB _ (List.getElem_mem _)
    obtain ⟨l0, l1⟩ := jnW_lt hB i k
    show (jnW B i k + B.getD (8 * i + k) 0 * 256 ^ k) / 256 ^ r % 256 = _
    by_cases hr : r = k
    · subst hr
      rw [Int.add_mul_ediv_right _ _ (Int.ne_of_gt (p256 r)), Int.ediv_eq_zero_of_lt l0 l1, Int.zero_add]
      exact Int.emod_eq_of_lt hs.1 hs.2
    · rw [← ih (by omega) (by omega)]
      obtain ⟨m, rfl⟩ : ∃ m, k = r + 1 + m := ⟨k - r - 1, by omega⟩
      generalize jnW B i (r + 1 + m) = J
      generalize B.getD (8 * i + (r + 1 + m)) 0 = b
      have e : b * (256 : Int) ^ (r + 1 + m) = (b * 256 ^ m * 256) * 256 ^ r := by
        rw [Int.pow_add, Int.pow_succ]
        generalize (256 : Int) ^ r = P
        generalize (256 : Int) ^ m = Q
        rw [Int.mul_assoc b Q 256, Int.mul_assoc b (Q * 256) P, Int.mul_comm Q 256, Int.mul_comm P 256, Int.mul_assoc 256 P Q, Int.mul_assoc 256 Q P, Int.mul_comm P Q]
      rw [e, Int.add_mul_ediv_right _ _ (Int.ne_of_gt (p256 r)), Int.add_mul_emod_self_right]
theorem jn_spB {B : List Int} (hB : ∀ x ∈ B, 0 ≤ x ∧ x < 256) (hl : B.length = 64) (j : Nat) (hj : j < 64) : spB (jnF B) j = B.getD j 0 := by
  unfold spB
  have h8 : j / 8 < 8 := by omega
  have hg : (jnF B).getD (j / 8) 0 = jnW B (j / 8) 8 := by simp [jnF, h8]
  rw [hg, jn_digit hB (j / 8) 8 (j % 8) (by omega) (by omega), show 8 * (j / 8) + j % 8 = j by omega]
/-- one byte replaced -/
theorem jn_put {B B' : List Int} (i r : Nat) (hs : ∀ q, q ≠ r → B'.getD (8 * i + q) 0 = B.getD (8 * i + q) 0) (k : Nat) :
    jnW B' i k = if r < k then jnW B i k - B.getD (8 * i + r) 0 * 256 ^ r + B'.getD (8 * i + r) 0 * 256 ^ r else jnW B i k := by
  induction k with
  | zero => simp [jnW]
  | succ k ih =>
    show jnW B' i k + B'.getD (8 * i + k) 0 * 256 ^ k = _
    rw [ih]
    show _ = if r < k + 1 then jnW B i k + B.getD (8 * i + k) 0 * 256 ^ k - B.getD (8 * i + r) 0 * 256 ^ r + B'.getD (8 * i + r) 0 * 256 ^ r else jnW B i k + B.getD (8 * i + k) 0 * 256 ^ k
    by_cases h : r < k
    · rw [if_pos h, if_pos (by omega), hs k (by omega)]
      omega
    · by_cases h2 : r = k
      · subst h2
        rw [if_neg h, if_pos (by omega)]
        omega
      · rw [if_neg h, if_neg (by omega), hs k (by omega)]
/-- split and joined again -/
theorem jn_sp_digits (x : Int) (x0 : 0 ≤ x) (k : Nat) (B : List Int) (i : Nat) (hB : ∀ q, q < 8 → B.getD (8 * i + q) 0 = x / 256 ^ q % 256) (hk : k ≤ 8) : jnW B i k = x % 256 ^ k := by
  induction k with
  | zero => simp [jnW, Int.emod_one]
  | succ k ih =>
    show jnW B i k + B.getD (8 * i + k) 0 * 256 ^ k = _
    rw [ih (by omega), hB k (by omega), Int.pow_succ]
    obtain ⟨n, rfl⟩ := Int.eq_ofNat_of_zero_le x0
    have h := Nat.mod_mul (x := n) (a := 256 ^ k) (b := 256)
    have e : ((256 ^ k : Nat) : Int) = 256 ^ k := Int.natCast_pow 256 k
    have h' := congrArg (Int.ofNat) h
    simp only [Int.ofNat_eq_natCast, Int.natCast_add, Int.natCast_mul, Int.natCast_emod, Int.natCast_ediv, e] at h'
    rw [show ((256 : Nat) : Int) = 256 from rfl] at h'
    rw [h', Int.mul_comm (256 ^ k)]
theorem sp_jn (C : List Int) (hC : C.length = 8) (hw : ∀ x ∈ C, 0 ≤ x ∧ x ≤ 18446744073709551615) : jnF (spF C) = C := by
  apply List.ext_getElem
  · simp [jnF, hC]
  · intro i h1 h2
    have hi : i < 8 := by omega
    obtain ⟨x0, x1⟩ := hw C[i] (List.getElem_mem h2)
    have hg : (jnF (spF C))[i] = jnW (spF C) i 8 := by simp [jnF]
    refine Eq.trans hg ?_
    rw [jn_sp_digits C[i] x0 8 (spF C) i (fun q hq => ?_) (by omega)]
    · rw [show (256 : Int) ^ 8 = 18446744073709551616 by decide]
      exact Int.emod_eq_of_lt x0 (by omega)
    · have hj : 8 * i + q < 64 := by omega
      have e1 : (8 * i + q) / 8 = i := by omega
      have e2 : (8 * i + q) % 8 = q := by omega
      simp [spF, hj, spB, e1, e2, List.getElem?_eq_getElem h2]
theorem pb_old (C : List Int) (a : Nat) (v : Int) (k : Nat) (h : a + k < 64) : (pbTo C a v k).getD (a + k) 0 = spB C (a + k) := by
  simp [pbTo, h]
theorem pb_new (C : List Int) (a : Nat) (v : Int) (k : Nat) (h : a + k < 64) : (pbTo C a v (k + 1)).getD (a + k) 0 = v / 2 ^ (8 * k) % 256 := by
  simp [pbTo, h]
theorem pb_same (C : List Int) (a : Nat) (v : Int) (k j : Nat) (h : j ≠ a + k) : (pbTo C a v (k + 1)).getD j 0 = (pbTo C a v k).getD j 0 := by
  by_cases hj : j < 64
  · have h1 : (a ≤ j ∧ j < a + (k + 1)) ↔ (a ≤ j ∧ j < a + k) := by omega
    simp [pbTo, hj, h1]
  · simp [pbTo, hj]
theorem jnF_wf {B : List Int} (hB : ∀ x ∈ B, 0 ≤ x ∧ x < 256) : ∀ x ∈ jnF B, 0 ≤ x ∧ x ≤ 18446744073709551615 := by
  intro x hx
  obtain ⟨i, _, rfl⟩ := List.mem_map.1 hx
  obtain ⟨h0, h1⟩ := jnW_lt hB i 8
  rw [show (256 : Int) ^ 8 = 18446744073709551616 by decide] at h1
  omega
end Go.Proofs.Ytgibkebdkhildaa
