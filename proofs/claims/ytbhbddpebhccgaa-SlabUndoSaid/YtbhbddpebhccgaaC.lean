import Derived.Test.YtbhbddpebhccgaaB
import Derived.Deep.RegionHeld3

namespace Go.Proofs.Ytbhbddpebhccgaa
open Go.RowKit

theorem hid {p : Prop} (h : p) : Hid p := h
theorem bt {w w1 w2 : World} (h : Below w.heap.size w w1) (k : Below w1.heap.size w1 w2) : Below w.heap.size w w2 := h.trans (k.mono h.size)

theorem mod_neg {n m : Int} (_h : n < 0) (m0 : 1 ≤ m) : (n.tmod m < 0 → n.tmod m + m = n % m) ∧ (0 ≤ n.tmod m → n.tmod m = n % m) ∧ -m < n.tmod m := by
  have e := Int.emod_nonneg n (show m ≠ 0 by omega)
  have e2 := Int.emod_lt_of_pos n (show 0 < m by omega)
  have hd : n.tmod m % m = n % m := by
    have h1 := Int.tmod_add_mul_tdiv n m
    have h2 : (n.tmod m + m * n.tdiv m) % m = n.tmod m % m := Int.add_mul_emod_self_left _ _ _
    rw [h1] at h2
    exact h2.symm
  have hb : -m < n.tmod m := by
    have := Int.lt_tmod_of_pos n (show 0 < m by omega)
    omega
  have hu : n.tmod m < m := Int.tmod_lt_of_pos n (show 0 < m by omega)
  refine ⟨fun hn => ?_, fun hn => ?_, hb⟩
  · have : (n.tmod m + m) % m = n % m := by rw [Int.add_emod_right]; exact hd
    rw [← this, Int.emod_eq_of_lt (by omega) (by omega)]
  · rw [← hd, Int.emod_eq_of_lt (by omega) (by omega)]

theorem mod_any (n m : Int) (n0 : -9223372036854775808 ≤ n) (n1 : n ≤ 9223372036854775807) (m0 : 1 ≤ m) (m1 : m ≤ 1000000) (w : World) :
    Calls Try.prog 10 #[.int .i64 n, .int .i64 m] w fun e w' => e = .returned (.int .i64 (n % m)) ∧ w = w' := by
  by_cases h : 0 ≤ n
  · have hm : 0 ≤ n % m := Int.emod_nonneg n (by omega)
    go_enter Try.func10, Try.ntmps10
    go_wp2_with fail
    go_ret
    exact ⟨rfl, rfl⟩
  · have hn := mod_neg (n := n) (m := m) (by omega) m0
    have hb := hn.2.2
    have H1 := hid hn.1
    have H2 := hid hn.2.1
    clear hn
    go_enter Try.func10, Try.ntmps10
    go_wp2_with fail
    · go_ret
      exact ⟨ret_int (H1.out ‹_›), rfl⟩
    · go_ret
      exact ⟨ret_int (H2.out ‹_›), rfl⟩

theorem state_ok (f u : Int) (h0 : 0 ≤ f) (h1 : f < 256) (want : Int) (w : World) :
    Calls Try.prog 12 #[.agg #[.int .i64 f, .int .u8 u], .int .i64 want] w fun e w' => e = .returned (.bool (ofS u == want)) ∧ Below w.heap.size w w' := by
  go_enter Try.func12, Try.ntmps12
  go_wp2_with (first | (go_at_call 28; refine (of_any _ _ _).mono ?_; rintro e w1 ⟨rfl, hb1⟩) | go_in)
  all_goals
    go_ret
    refine ⟨by first | (simp [‹ofS u = want›]; done) | (simp [‹¬ ofS u = want›]; done), ?_⟩
    refine Below.trans ?_ (Below.mono hb1 (by simp <;> omega))
    repeat (first | exact Below.refl _ _ | refine Below.alloc ?_ (by simp <;> omega) _ | refine Below.drew ?_)

set_option maxHeartbeats 400000 in
theorem awake_any (w : World) :
    Calls Try.prog 9 #[] w fun e w' => e = .returned (.bool true) ∧ Below w.heap.size w w' := by
  go_enter Try.func9, Try.ntmps9
  go_wp2_with fail
  refine (s_any _ _).mono ?_
  rintro e w1 ⟨rfl, hb1⟩
  go_wp2_with fail
  refine (alloc_any _ _ (by omega) (by omega) _).mono ?_
  rintro e w2 ⟨rfl, hb2⟩
  rw [show aF 5 5 = 5 from by decide +kernel, show aU 5 5 = 7 from by decide +kernel, show aO 5 5 = 41 from by decide +kernel, show aE 5 5 = 0 from by decide +kernel]
  go_wp2_with fail
  refine (s_any _ _).mono ?_
  rintro e w3 ⟨rfl, hb3⟩
  go_wp2_with fail
  refine (free_any _ _ _ (by omega) (by omega) _).mono ?_
  rintro e w4 ⟨rfl, hb4⟩
  rw [show rF 5 5 42 = 5 from by decide +kernel, show rU 5 5 42 = 1 from by decide +kernel, show rE 5 5 42 = 0 from by decide +kernel]
  go_wp2_with fail
  have z2 := (hb1.trans (hb2.mono hb1.size))
  have z3 := z2.trans (((Below.refl w2.heap.size w2).alloc (Nat.le_refl _) (.cells #[.int .i64 5, .int .u8 7] 29)).trans (hb3.mono (by simp)) |>.mono z2.size)
  have z4 := z3.trans (hb4.mono z3.size)
  have c1 : w4.cell? ⟨w2.heap.size, 0, none⟩ = some (.int .i64 5) := kc hb4 (kc hb3 (by simp))
  have c2 : w4.cell? ⟨w2.heap.size, 1, none⟩ = some (.int .u8 7) := kc hb4 (kc hb3 (by simp))
  have z5 : Below w.heap.size w (w4.alloc (.cells #[.int .i64 5, .int .u8 1] 29)) := z4.alloc z4.size _
  generalize hW : w4.alloc (.cells #[.int .i64 5, .int .u8 1] 29) = W at *
  have c3 : W.cell? ⟨w4.heap.size, 0, none⟩ = some (.int .i64 5) := by rw [← hW]; simp
  have c4 : W.cell? ⟨w4.heap.size, 1, none⟩ = some (.int .u8 1) := by rw [← hW]; simp
  have c1' : W.cell? ⟨w2.heap.size, 0, none⟩ = some (.int .i64 5) := by rw [← hW]; exact kc ((Below.refl _ _).alloc (Nat.le_refl _) _) c1
  have c2' : W.cell? ⟨w2.heap.size, 1, none⟩ = some (.int .u8 7) := by rw [← hW]; exact kc ((Below.refl _ _).alloc (Nat.le_refl _) _) c2
  clear hW c1 c2 hb1 hb2 hb3 hb4 z2 z3 z4
  go_region_held3 (fun w' => w'.cell? ⟨w2.heap.size, 0, none⟩ = some (.int .i64 5) ∧ w'.cell? ⟨w2.heap.size, 1, none⟩ = some (.int .u8 7) ∧ w'.cell? ⟨w4.heap.size, 0, none⟩ = some (.int .i64 5) ∧ w'.cell? ⟨w4.heap.size, 1, none⟩ = some (.int .u8 1))
    (first | go_keep | (go_split_ands; (repeat' apply And.intro) <;> exact kc (by assumption) (by assumption)))
    (first | (go_at_call 27; refine (s_any _ _).mono ?_; rintro e w5 ⟨rfl, hb5⟩) | (go_at_call 12; refine (state_ok _ _ (by omega) (by omega) _ _).mono ?_; rintro e w5 ⟨rfl, hb5⟩))
  go_wp2_with fail
  go_ret
  refine ⟨rfl, ?_⟩
  repeat (first | assumption | refine Below.drew ?_ | refine bt ?_ (by assumption))
end Go.Proofs.Ytbhbddpebhccgaa
