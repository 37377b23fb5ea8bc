import Derived.Test.YtgibkebdkhildaaS
namespace Go.Proofs.Ytgibkebdkhildaa
open Go.RowKit
set_option linter.unusedVariables false
set_option linter.unusedSimpArgs false

theorem wrap_shift {x : Int} {n : Nat} (n0 : 1 ≤ n) (n1 : n ≤ 8) (x0 : 0 ≤ x) (x1 : x < 256 ^ n) : IntKind.u64.wrap (x * 2 ^ (64 - 8 * n)) = x * 2 ^ (64 - 8 * n) := by
  rcases (show n = 1 ∨ n = 2 ∨ n = 3 ∨ n = 4 ∨ n = 5 ∨ n = 6 ∨ n = 7 ∨ n = 8 by omega) with rfl | rfl | rfl | rfl | rfl | rfl | rfl | rfl <;> simp at x1 <;> simp [IntKind.wrap_u64] <;> omega
theorem top_lt {x : Int} {n : Nat} (n1 : n ≤ 8) (x1 : x < 256 ^ n) : x ≤ 18446744073709551615 := by
  rcases (show n = 0 ∨ n = 1 ∨ n = 2 ∨ n = 3 ∨ n = 4 ∨ n = 5 ∨ n = 6 ∨ n = 7 ∨ n = 8 by omega) with rfl | rfl | rfl | rfl | rfl | rfl | rfl | rfl | rfl <;> simp at x1 <;> omega

theorem puts_walk (C : List Int) (hC : C.length = 8) (hw : ∀ x ∈ C, (Lit.int .u64 x).wf = true) (v : Int) (wv : (Lit.int .u64 v).wf = true) (x : Int) (wx : (Lit.int .i64 x).wf = true) (w : World) :
    Calls Try.prog 6 #[.agg (ca C), .int .u64 v, .int .i64 x] w fun e w' => e = .returned (.bool true) ∧ Below w.heap.size w w' := by
  have hw' : ∀ x ∈ C, 0 ≤ x ∧ x ≤ 18446744073709551615 := fun x hx => wfu (hw x hx)
  obtain ⟨v0, v1⟩ := wfu wv
  obtain ⟨x0, x1⟩ := wf64 wx
  have hq := Int.mul_tdiv_add_tmod x 64
  have hm0 := Int.lt_tmod_of_pos x (show (0 : Int) < 64 by omega)
  have hm1 := Int.tmod_lt_of_pos x (show (0 : Int) < 64 by omega)
  obtain ⟨M, hM⟩ := Int.eq_ofNat_of_zero_le (show 0 ≤ x.tdiv 64 % 8 by omega)
  obtain ⟨A, hA⟩ := Int.eq_ofNat_of_zero_le (show 0 ≤ x % (65 - ((M + 1 : Nat) : Int)) from Int.emod_nonneg _ (by omega))
  have hA2 := Int.emod_lt_of_pos x (show 0 < 65 - ((M + 1 : Nat) : Int) by omega)
  have hAN : A + (M + 1) ≤ 64 := by omega
  have hDl : (puF C A v (M + 1)).length = 8 := jnF_len _
  have hDw : ∀ y ∈ puF C A v (M + 1), 0 ≤ y ∧ y ≤ 18446744073709551615 := jnF_wf (pbTo_byte C A v (M + 1))
  have hbX := by_put C A (M + 1) v v0 hAN (M + 1) (Nat.le_refl _)
  have hlt := byTo_lt (puF C A v (M + 1)) A (M + 1)
  refine puts_core C (puF C A v (M + 1)) hC hDl x A (M + 1) (by omega) (by omega) hAN x0 x1 v (byTo (puF C A v (M + 1)) A (M + 1)) (sgF (byTo (puF C A v (M + 1)) A (M + 1)) (M + 1)) v0 v1 (spB C) (spB (puF C A v (M + 1))) (by omega) (by omega) (by omega) hA
    (fun W => putb_ok C hC hw' A (M + 1) (by omega) (by omega) hAN v v0 v1 W)
    (fun j hj W => ?_) (fun j hj W => ?_) (fun j hj => pu_byte C A v (M + 1) j hj)
    (fun W => bytes_ok _ hDl hDw A (M + 1) (by omega) (by omega) hAN W)
    (fun W => ?_) hbX ?_ (fun W => signed_ok _ hDl hDw A (M + 1) (by omega) (by omega) hAN W) w
  · have := bytes_ok C hC hw' j 1 (by omega) (by omega) (by omega) W
    rw [by_one] at this
    exact this
  · have := bytes_ok _ hDl hDw j 1 (by omega) (by omega) (by omega) W
    rw [by_one] at this
    exact this
  · have := putb_ok _ hDl hDw A (M + 1) (by omega) (by omega) hAN (byTo (puF C A v (M + 1)) A (M + 1)) hlt.1 ?_ W
    · rw [pu_again _ hDl hDw] at this
      exact this
    · exact top_lt (by omega) hlt.2
  · rw [sg_shl (by omega) (by omega) hlt.1 hlt.2]
    exact wrap_shift (by omega) (by omega) hlt.1 hlt.2
end Go.Proofs.Ytgibkebdkhildaa
