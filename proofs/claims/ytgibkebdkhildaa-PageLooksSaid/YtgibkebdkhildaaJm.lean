import Derived.Test.YtgibkebdkhildaaJl
namespace Go.Proofs.Ytgibkebdkhildaa
open Go.RowKit
set_option linter.unusedVariables false

theorem jn_congr {B B' : List Int} (i : Nat) (k : Nat) (hs : ∀ q, q < k → B'.getD (8 * i + q) 0 = B.getD (8 * i + q) 0) : jnW B' i k = jnW B i k := by
  induction k with
  | zero => rfl
  | succ k ih =>
    show jnW B' i k + B'.getD (8 * i + k) 0 * 256 ^ k = jnW B i k + B.getD (8 * i + k) 0 * 256 ^ k
    rw [ih (fun q hq => hs q (by omega)), hs k (by omega)]
theorem round_law (C : List Int) (a : Nat) (v : Int) (k : Nat) (hj : a + k < 64) :
    IntKind.u64.wrap (IntKind.u64.wrap ((jnF (pbTo C a v k)).getD ((a + k) / 8) 0 - IntKind.u64.wrap (spB (jnF (pbTo C a v k)) (a + k) * 2 ^ (8 * ((a + k) % 8)))) + IntKind.u64.wrap (v / 256 ^ k % 256 * 2 ^ (8 * ((a + k) % 8)))) = (jnF (pbTo C a v (k + 1))).getD ((a + k) / 8) 0 := by
  have h8 : (a + k) / 8 < 8 := by omega
  have g1 : ∀ n, (jnF (pbTo C a v n)).getD ((a + k) / 8) 0 = jnW (pbTo C a v n) ((a + k) / 8) 8 := fun n => by simp [jnF, h8]
  have hjj : 8 * ((a + k) / 8) + (a + k) % 8 = a + k := by omega
  have hp := jn_put (B := pbTo C a v k) (B' := pbTo C a v (k + 1)) ((a + k) / 8) ((a + k) % 8) (fun q hq => pb_same C a v k _ (by omega)) 8
  rw [if_pos (by omega), hjj, pb_old C a v k hj, pb_new C a v k hj] at hp
  rw [g1, g1, jn_spB (pbTo_byte C a v k) (pbTo_len _ _ _ _) (a + k) hj, pb_old C a v k hj, hp, ← pw, ← pw]
  obtain ⟨b0, b1⟩ := jnW_lt (pbTo_byte C a v (k + 1)) ((a + k) / 8) 8
  rw [hp, ← pw] at b0 b1
  rw [show (256 : Int) ^ 8 = 18446744073709551616 by decide] at b1
  simp only [IntKind.wrap_u64]
  generalize spB C (a + k) * 256 ^ ((a + k) % 8) = A at *
  generalize v / 256 ^ k % 256 * 256 ^ ((a + k) % 8) = Bv at *
  omega
theorem round_set (C : List Int) (a : Nat) (v : Int) (k : Nat) (hj : a + k < 64) :
    (ca (jnF (pbTo C a v k))).setIfInBounds ((a + k) / 8) (.int .u64 ((jnF (pbTo C a v (k + 1))).getD ((a + k) / 8) 0)) = ca (jnF (pbTo C a v (k + 1))) := by
  rw [ca_set]
  congr 1
  apply List.ext_getElem
  · simp [jnF]
  · intro i h1 h2
    have hi : i < 8 := by simpa [jnF] using h2
    rw [List.getElem_set]
    by_cases hq : (a + k) / 8 = i
    · subst hq
      simp [jnF, hi]
    · rw [if_neg hq]
      simp only [jnF, List.getElem_map, List.getElem_range]
      exact (jn_congr i 8 (fun q hq' => pb_same C a v k _ (by omega))).symm
end Go.Proofs.Ytgibkebdkhildaa
