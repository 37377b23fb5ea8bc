import Derived.Test.YtgibkebdkhildaaL
namespace Go.Proofs.Ytgibkebdkhildaa
open Go.RowKit
set_option linter.unusedVariables false
set_option linter.unusedSimpArgs false

theorem mod_neg {n m : Int} (_h : n < 0) (m0 : 1 ≤ m) : (n.tmod m < 0 → n.tmod m + m = n % m) ∧ (0 ≤ n.tmod m → n.tmod m = n % m) ∧ -m < n.tmod m := by
  have e := Int.emod_nonneg n (show m ≠ 0 by omega)
  have e2 := Int.emod_lt_of_pos n (show 0 < m by omega)
  have hd : n.tmod m % m = n % m := by
    have h1 := Int.tmod_add_mul_tdiv n m
    have h2 : (n.tmod m + m * n.tdiv m) % m = n.tmod m % m := Int.add_mul_emod_self_left _ _ _
    rw [h1] at h2
    exact h2.symm
  have hb : -m < n.tmod m := by
    have := Int.lt_tmod_of_pos n (show 0 < m by omega)
    omega
  have hu : n.tmod m < m := Int.tmod_lt_of_pos n (show 0 < m by omega)
  refine ⟨fun hn => ?_, fun hn => ?_, hb⟩
  · have : (n.tmod m + m) % m = n % m := by rw [Int.add_emod_right]; exact hd
    rw [← this, Int.emod_eq_of_lt (by omega) (by omega)]
  · rw [← hd, Int.emod_eq_of_lt (by omega) (by omega)]

theorem mod_any (n m : Int) (n0 : -9223372036854775808 ≤ n) (n1 : n ≤ 9223372036854775807) (m0 : 1 ≤ m) (m1 : m ≤ 1000000) (w : World) :
    Calls Try.prog 16 #[.int .i64 n, .int .i64 m] w fun e w' => e = .returned (.int .i64 (n % m)) ∧ w = w' := by
  by_cases h : 0 ≤ n
  · have hm : 0 ≤ n % m := Int.emod_nonneg n (by omega)
    go_enter Try.func16, Try.ntmps16
    go_wp2_with fail
    go_ret
    exact ⟨rfl, rfl⟩
  · have hn := mod_neg (n := n) (m := m) (by omega) m0
    have hb := hn.2.2
    have H1 := hid hn.1
    have H2 := hid hn.2.1
    clear hn
    go_enter Try.func16, Try.ntmps16
    go_wp2_with fail
    · go_ret
      exact ⟨ret_int (H1.out ‹_›), rfl⟩
    · go_ret
      exact ⟨ret_int (H2.out ‹_›), rfl⟩

end Go.Proofs.Ytgibkebdkhildaa
