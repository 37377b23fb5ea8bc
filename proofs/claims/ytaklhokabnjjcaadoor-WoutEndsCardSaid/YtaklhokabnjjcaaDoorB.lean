import Derived.Test.YtaklhokabnjjcaaDoorA
import Derived.Deep.Light
namespace Go.Proofs.YtaklhokabnjjcaaDoor
open Go.RowKit
set_option linter.unusedVariables false
set_option linter.unusedSimpArgs false

def poS (k : Int) : Int := if k = 1 then 62 else if k = 2 then 62 else if k = 3 then 2 else if k = 4 then 4 else if k = 5 then 8 else if k = 6 then 12 else 0
def poL (s k : Int) : Int := if k = 1 then 1 else if k = 2 then (if s = 3 then 2 else 1) else if k = 4 then 1 else 0
def poH (k : Int) : Int := if k = 1 then 511 else if 2 ≤ k ∧ k ≤ 6 then 512 else 0
def poI (k : Int) : Bool := decide (1 ≤ k ∧ k ≤ 6)

set_option maxHeartbeats 1000000 in
theorem possible_any (s r c k : Int) (w : World) :
    Calls Tryd.prog 38 #[.agg #[.int .i64 s, .int .i64 r, .int .i64 c], .int .i64 k] w fun e w' => e = .returned (.tuple #[.int .i64 (poS k), .int .i64 (poL s k), .int .i64 (poH k), .bool (poI k)]) ∧ w' = w.alloc (.cells #[.int .i64 s, .int .i64 r, .int .i64 c] 23) := by
  rcases six k with rfl | rfl | rfl | rfl | rfl | rfl | hk
  case inr.inl =>
    by_cases h : s = 3
    · subst h
      go_enter Tryd.func38, Tryd.ntmps38
      go_wp2
      refine bodyPost_ret (results_tmp4 rfl _ _ _) rfl ?_
      exact ⟨rfl, rfl⟩
    · have e : (s == 3) = false := by simp [h]
      rw [show poL s 2 = 1 from by simp [poL, h]]
      clear h
      go_enter Tryd.func38, Tryd.ntmps38
      go_wp2
      refine bodyPost_ret (results_tmp4 rfl _ _ _) rfl ?_
      exact ⟨rfl, rfl⟩
  case inr.inr.inr.inr.inr.inr =>
    have e1 : (k == 1) = false := by simp; omega
    have e2 : (k == 2) = false := by simp; omega
    have e3 : (k == 3) = false := by simp; omega
    have e4 : (k == 4) = false := by simp; omega
    have e5 : (k == 5) = false := by simp; omega
    have e6 : (k == 6) = false := by simp; omega
    rw [show poS k = 0 from by unfold poS; (repeat' split) <;> omega, show poL s k = 0 from by unfold poL; (repeat' split) <;> omega, show poH k = 0 from by unfold poH; (repeat' split) <;> omega, show poI k = false from by unfold poI; simp; omega]
    clear hk
    go_enter Tryd.func38, Tryd.ntmps38
    go_wp2
    refine bodyPost_ret (results_tmp4 rfl _ _ _) rfl ?_
    exact ⟨rfl, rfl⟩
  all_goals
    go_enter Tryd.func38, Tryd.ntmps38
    go_wp2
    refine bodyPost_ret (results_tmp4 rfl _ _ _) rfl ?_
    exact ⟨rfl, rfl⟩

set_option maxHeartbeats 1000000 in
theorem wrong_1 (s r c p : Int) (s0 : 1 ≤ s) (s1 : s ≤ 6) (r0 : 0 ≤ r) (r1 : r ≤ 512) (w : World) :
    Calls Tryd.prog 31 #[.agg #[.int .i64 s, .int .i64 r, .int .i64 c], .agg #[.int .i64 1, .int .i64 p]] w fun e w' => e = .returned (.int .i64 (wrongE s r 1 p)) ∧ Below w.heap.size w w' := by
  have HB : Hid ((Go.bits .and .i64 (62 / 2 ^ s.toNat) 1 == 0) = decide (s = 6)) := by
    rcases (show s = 1 ∨ s = 2 ∨ s = 3 ∨ s = 4 ∨ s = 5 ∨ s = 6 by omega) with rfl | rfl | rfl | rfl | rfl | rfl <;> exact hid (by decide +kernel)
  go_enter Tryd.func31, Tryd.ntmps31
  go_wp2_with fail
  refine (possible_any _ _ _ _ _).mono ?_
  rintro e w' ⟨rfl, rfl⟩
  simp only [poS, poL, poH, poI]
  go_wp2_with fail
  all_goals (go_ret; refine ⟨ret_int ?_, by repeat (first | exact Below.refl _ _ | refine Below.alloc ?_ (by simp <;> omega) _)⟩)
  all_goals go_light
  all_goals (try simp only [HB.out, bne_iff_ne, bne_eq_false_iff_eq, ne_eq, beq_iff_eq, beq_eq_false_iff_ne, decide_eq_true_eq, decide_eq_false_iff_not] at *)
  all_goals (unfold wrongE posE; (repeat' split) <;> omega)

set_option maxHeartbeats 1000000 in
theorem wrong_2 (s r c p : Int) (s0 : 1 ≤ s) (s1 : s ≤ 6) (r0 : 0 ≤ r) (r1 : r ≤ 512) (w : World) :
    Calls Tryd.prog 31 #[.agg #[.int .i64 s, .int .i64 r, .int .i64 c], .agg #[.int .i64 2, .int .i64 p]] w fun e w' => e = .returned (.int .i64 (wrongE s r 2 p)) ∧ Below w.heap.size w w' := by
  have HB : Hid ((Go.bits .and .i64 (62 / 2 ^ s.toNat) 1 == 0) = decide (s = 6)) := by
    rcases (show s = 1 ∨ s = 2 ∨ s = 3 ∨ s = 4 ∨ s = 5 ∨ s = 6 by omega) with rfl | rfl | rfl | rfl | rfl | rfl <;> exact hid (by decide +kernel)
  by_cases h3 : s = 3
  · subst h3
    go_enter Tryd.func31, Tryd.ntmps31
    go_wp2_with fail
    refine (possible_any _ _ _ _ _).mono ?_
    rintro e w' ⟨rfl, rfl⟩
    simp only [poS, poL, poH, poI]
    go_wp2_with fail
    all_goals (go_ret; refine ⟨ret_int ?_, by repeat (first | exact Below.refl _ _ | refine Below.alloc ?_ (by simp <;> omega) _)⟩)
    all_goals go_light
    all_goals (try simp only [HB.out, bne_iff_ne, bne_eq_false_iff_eq, ne_eq, beq_iff_eq, beq_eq_false_iff_ne, decide_eq_true_eq, decide_eq_false_iff_not] at *)
    all_goals (unfold wrongE posE; (repeat' split) <;> omega)
  · go_enter Tryd.func31, Tryd.ntmps31
    go_wp2_with fail
    refine (possible_any _ _ _ _ _).mono ?_
    rintro e w' ⟨rfl, rfl⟩
    simp only [poS, poL, poH, poI, h3]
    go_wp2_with fail
    all_goals (go_ret; refine ⟨ret_int ?_, by repeat (first | exact Below.refl _ _ | refine Below.alloc ?_ (by simp <;> omega) _)⟩)
    all_goals go_light
    all_goals (try simp only [HB.out, bne_iff_ne, bne_eq_false_iff_eq, ne_eq, beq_iff_eq, beq_eq_false_iff_ne, decide_eq_true_eq, decide_eq_false_iff_not] at *)
    all_goals (unfold wrongE posE; (repeat' split) <;> omega)

set_option maxHeartbeats 1000000 in
theorem wrong_3 (s r c p : Int) (s0 : 1 ≤ s) (s1 : s ≤ 6) (r0 : 0 ≤ r) (r1 : r ≤ 512) (w : World) :
    Calls Tryd.prog 31 #[.agg #[.int .i64 s, .int .i64 r, .int .i64 c], .agg #[.int .i64 3, .int .i64 p]] w fun e w' => e = .returned (.int .i64 (wrongE s r 3 p)) ∧ Below w.heap.size w w' := by
  have HB : Hid ((Go.bits .and .i64 (2 / 2 ^ s.toNat) 1 == 0) = decide (s ≠ 1)) := by
    rcases (show s = 1 ∨ s = 2 ∨ s = 3 ∨ s = 4 ∨ s = 5 ∨ s = 6 by omega) with rfl | rfl | rfl | rfl | rfl | rfl <;> exact hid (by decide +kernel)
  go_enter Tryd.func31, Tryd.ntmps31
  go_wp2_with fail
  refine (possible_any _ _ _ _ _).mono ?_
  rintro e w' ⟨rfl, rfl⟩
  simp only [poS, poL, poH, poI]
  go_wp2_with fail
  all_goals (go_ret; refine ⟨ret_int ?_, by repeat (first | exact Below.refl _ _ | refine Below.alloc ?_ (by simp <;> omega) _)⟩)
  all_goals go_light
  all_goals (try simp only [HB.out, bne_iff_ne, bne_eq_false_iff_eq, ne_eq, beq_iff_eq, beq_eq_false_iff_ne, decide_eq_true_eq, decide_eq_false_iff_not] at *)
  all_goals (unfold wrongE posE; (repeat' split) <;> omega)

set_option maxHeartbeats 1000000 in
theorem wrong_4 (s r c p : Int) (s0 : 1 ≤ s) (s1 : s ≤ 6) (r0 : 0 ≤ r) (r1 : r ≤ 512) (w : World) :
    Calls Tryd.prog 31 #[.agg #[.int .i64 s, .int .i64 r, .int .i64 c], .agg #[.int .i64 4, .int .i64 p]] w fun e w' => e = .returned (.int .i64 (wrongE s r 4 p)) ∧ Below w.heap.size w w' := by
  have HB : Hid ((Go.bits .and .i64 (4 / 2 ^ s.toNat) 1 == 0) = decide (s ≠ 2)) := by
    rcases (show s = 1 ∨ s = 2 ∨ s = 3 ∨ s = 4 ∨ s = 5 ∨ s = 6 by omega) with rfl | rfl | rfl | rfl | rfl | rfl <;> exact hid (by decide +kernel)
  go_enter Tryd.func31, Tryd.ntmps31
  go_wp2_with fail
  refine (possible_any _ _ _ _ _).mono ?_
  rintro e w' ⟨rfl, rfl⟩
  simp only [poS, poL, poH, poI]
  go_wp2_with fail
  all_goals (go_ret; refine ⟨ret_int ?_, by repeat (first | exact Below.refl _ _ | refine Below.alloc ?_ (by simp <;> omega) _)⟩)
  all_goals go_light
  all_goals (try simp only [HB.out, bne_iff_ne, bne_eq_false_iff_eq, ne_eq, beq_iff_eq, beq_eq_false_iff_ne, decide_eq_true_eq, decide_eq_false_iff_not] at *)
  all_goals (unfold wrongE posE; (repeat' split) <;> omega)

set_option maxHeartbeats 1000000 in
theorem wrong_5 (s r c p : Int) (s0 : 1 ≤ s) (s1 : s ≤ 6) (r0 : 0 ≤ r) (r1 : r ≤ 512) (w : World) :
    Calls Tryd.prog 31 #[.agg #[.int .i64 s, .int .i64 r, .int .i64 c], .agg #[.int .i64 5, .int .i64 p]] w fun e w' => e = .returned (.int .i64 (wrongE s r 5 p)) ∧ Below w.heap.size w w' := by
  have HB : Hid ((Go.bits .and .i64 (8 / 2 ^ s.toNat) 1 == 0) = decide (s ≠ 3)) := by
    rcases (show s = 1 ∨ s = 2 ∨ s = 3 ∨ s = 4 ∨ s = 5 ∨ s = 6 by omega) with rfl | rfl | rfl | rfl | rfl | rfl <;> exact hid (by decide +kernel)
  go_enter Tryd.func31, Tryd.ntmps31
  go_wp2_with fail
  refine (possible_any _ _ _ _ _).mono ?_
  rintro e w' ⟨rfl, rfl⟩
  simp only [poS, poL, poH, poI]
  go_wp2_with fail
  all_goals (go_ret; refine ⟨ret_int ?_, by repeat (first | exact Below.refl _ _ | refine Below.alloc ?_ (by simp <;> omega) _)⟩)
  all_goals go_light
  all_goals (try simp only [HB.out, bne_iff_ne, bne_eq_false_iff_eq, ne_eq, beq_iff_eq, beq_eq_false_iff_ne, decide_eq_true_eq, decide_eq_false_iff_not] at *)
  all_goals (unfold wrongE posE; (repeat' split) <;> omega)

set_option maxHeartbeats 1000000 in
theorem wrong_6 (s r c p : Int) (s0 : 1 ≤ s) (s1 : s ≤ 6) (r0 : 0 ≤ r) (r1 : r ≤ 512) (w : World) :
    Calls Tryd.prog 31 #[.agg #[.int .i64 s, .int .i64 r, .int .i64 c], .agg #[.int .i64 6, .int .i64 p]] w fun e w' => e = .returned (.int .i64 (wrongE s r 6 p)) ∧ Below w.heap.size w w' := by
  have HB : Hid ((Go.bits .and .i64 (12 / 2 ^ s.toNat) 1 == 0) = decide (s ≠ 2 ∧ s ≠ 3)) := by
    rcases (show s = 1 ∨ s = 2 ∨ s = 3 ∨ s = 4 ∨ s = 5 ∨ s = 6 by omega) with rfl | rfl | rfl | rfl | rfl | rfl <;> exact hid (by decide +kernel)
  go_enter Tryd.func31, Tryd.ntmps31
  go_wp2_with fail
  refine (possible_any _ _ _ _ _).mono ?_
  rintro e w' ⟨rfl, rfl⟩
  simp only [poS, poL, poH, poI]
  go_wp2_with fail
  all_goals (go_ret; refine ⟨ret_int ?_, by repeat (first | exact Below.refl _ _ | refine Below.alloc ?_ (by simp <;> omega) _)⟩)
  all_goals go_light
  all_goals (try simp only [HB.out, bne_iff_ne, bne_eq_false_iff_eq, ne_eq, beq_iff_eq, beq_eq_false_iff_ne, decide_eq_true_eq, decide_eq_false_iff_not] at *)
  all_goals (unfold wrongE posE; (repeat' split) <;> omega)

set_option maxHeartbeats 1000000 in
theorem wrong_any (s r c k p : Int) (s0 : 1 ≤ s) (s1 : s ≤ 6) (r0 : 0 ≤ r) (r1 : r ≤ 512) (w : World) :
    Calls Tryd.prog 31 #[.agg #[.int .i64 s, .int .i64 r, .int .i64 c], .agg #[.int .i64 k, .int .i64 p]] w fun e w' => e = .returned (.int .i64 (wrongE s r k p)) ∧ Below w.heap.size w w' := by
  rcases six k with rfl | rfl | rfl | rfl | rfl | rfl | hk
  · exact wrong_1 s r c p s0 s1 r0 r1 w
  · exact wrong_2 s r c p s0 s1 r0 r1 w
  · exact wrong_3 s r c p s0 s1 r0 r1 w
  · exact wrong_4 s r c p s0 s1 r0 r1 w
  · exact wrong_5 s r c p s0 s1 r0 r1 w
  · exact wrong_6 s r c p s0 s1 r0 r1 w
  · rw [show wrongE s r k p = 16 from by unfold wrongE; rw [if_pos hk]]
    have hi : poI k = false := by unfold poI; simp; omega
    have HI := hid hi
    clear hk hi
    go_enter Tryd.func31, Tryd.ntmps31
    go_wp2_with fail
    refine (possible_any _ _ _ _ _).mono ?_
    rintro e w' ⟨rfl, rfl⟩
    rw [HI.out]
    go_wp2_with fail
    go_ret
    refine ⟨rfl, ?_⟩
    repeat (first | exact Below.refl _ _ | refine Below.alloc ?_ (by simp <;> omega) _)
end Go.Proofs.YtaklhokabnjjcaaDoor
