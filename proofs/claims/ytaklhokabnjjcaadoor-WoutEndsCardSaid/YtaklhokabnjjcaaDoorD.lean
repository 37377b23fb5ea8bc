import Derived.Test.YtaklhokabnjjcaaDoorC
import Derived.Deep.Light
namespace Go.Proofs.YtaklhokabnjjcaaDoor
open Go.RowKit
set_option linter.unusedVariables false
set_option linter.unusedSimpArgs false

set_option maxHeartbeats 1000000 in
theorem after_1 (s r c p : Int) (r0 : 0 ≤ r) (r1 : r ≤ 512) (w : World) :
    Calls Tryd.prog 34 #[.agg #[.int .i64 s, .int .i64 r, .int .i64 c], .agg #[.int .i64 1, .int .i64 p]] w fun e w' => e = .returned (.agg #[.int .i64 (dS s r 1), .int .i64 (dR s r 1), .int .i64 (dC s c 1 p)]) ∧ Below w.heap.size w w' := by
  go_enter Tryd.func34, Tryd.ntmps34
  go_wp2
  try (go_region; all_goals go_wp2)
  refine bodyPost_ret (v := .agg #[.int .i64 (s), .int .i64 (r + 1), .int .i64 (c)]) (by simp [results, Tryd.results34, go_sem]) rfl ⟨by simp [dS, dR, dC], ?_⟩
  repeat (first | exact Below.refl _ _ | refine Below.alloc ?_ (by simp <;> omega) _ | refine Below.drew ?_ | refine Below.setCell ?_ (by simp) _)

set_option maxHeartbeats 1000000 in
theorem after_2a (s r c p : Int) (r0 : 0 ≤ r) (r1 : r ≤ 512) (h : ¬ r = 1) (w : World) :
    Calls Tryd.prog 34 #[.agg #[.int .i64 s, .int .i64 r, .int .i64 c], .agg #[.int .i64 2, .int .i64 p]] w fun e w' => e = .returned (.agg #[.int .i64 (dS s r 2), .int .i64 (dR s r 2), .int .i64 (dC s c 2 p)]) ∧ Below w.heap.size w w' := by
  have e1 : (r - 1 == 0) = false := by simp; omega
  have HH := hid h
  clear h
  go_enter Tryd.func34, Tryd.ntmps34
  go_wp2
  try (go_region; all_goals go_wp2)
  refine bodyPost_ret (v := .agg #[.int .i64 (s), .int .i64 (r - 1), .int .i64 (c)]) (by simp [results, Tryd.results34, go_sem]) rfl ⟨by simp [dS, dR, dC, HH.out], ?_⟩
  repeat (first | exact Below.refl _ _ | refine Below.alloc ?_ (by simp <;> omega) _ | refine Below.drew ?_ | refine Below.setCell ?_ (by simp) _)

set_option maxHeartbeats 1000000 in
theorem after_2b1 (c p : Int) (w : World) :
    Calls Tryd.prog 34 #[.agg #[.int .i64 1, .int .i64 1, .int .i64 c], .agg #[.int .i64 2, .int .i64 p]] w fun e w' => e = .returned (.agg #[.int .i64 (dS 1 1 2), .int .i64 (dR 1 1 2), .int .i64 (dC 1 c 2 p)]) ∧ Below w.heap.size w w' := by
  go_enter Tryd.func34, Tryd.ntmps34
  go_wp2
  try (go_region; all_goals go_wp2)
  refine bodyPost_ret (v := .agg #[.int .i64 (6), .int .i64 (0), .int .i64 (c)]) (by simp [results, Tryd.results34, go_sem]) rfl ⟨by simp [dS, dR, dC], ?_⟩
  repeat (first | exact Below.refl _ _ | refine Below.alloc ?_ (by simp <;> omega) _ | refine Below.drew ?_ | refine Below.setCell ?_ (by simp) _)

set_option maxHeartbeats 1000000 in
theorem after_2b4 (c p : Int) (w : World) :
    Calls Tryd.prog 34 #[.agg #[.int .i64 4, .int .i64 1, .int .i64 c], .agg #[.int .i64 2, .int .i64 p]] w fun e w' => e = .returned (.agg #[.int .i64 (dS 4 1 2), .int .i64 (dR 4 1 2), .int .i64 (dC 4 c 2 p)]) ∧ Below w.heap.size w w' := by
  go_enter Tryd.func34, Tryd.ntmps34
  go_wp2
  try (go_region; all_goals go_wp2)
  refine bodyPost_ret (v := .agg #[.int .i64 (6), .int .i64 (0), .int .i64 (c)]) (by simp [results, Tryd.results34, go_sem]) rfl ⟨by simp [dS, dR, dC], ?_⟩
  repeat (first | exact Below.refl _ _ | refine Below.alloc ?_ (by simp <;> omega) _ | refine Below.drew ?_ | refine Below.setCell ?_ (by simp) _)

set_option maxHeartbeats 1000000 in
theorem after_2c (s c p : Int) (h : ¬ s = 1) (h' : ¬ s = 4) (w : World) :
    Calls Tryd.prog 34 #[.agg #[.int .i64 s, .int .i64 1, .int .i64 c], .agg #[.int .i64 2, .int .i64 p]] w fun e w' => e = .returned (.agg #[.int .i64 (dS s 1 2), .int .i64 (dR s 1 2), .int .i64 (dC s c 2 p)]) ∧ Below w.heap.size w w' := by
  have e1 : (s == 1) = false := by simp [h]
  have e4 : (s == 4) = false := by simp [h']
  have HH := hid h
  have HK := hid h'
  clear h h'
  go_enter Tryd.func34, Tryd.ntmps34
  go_wp2
  try (go_region; all_goals go_wp2)
  refine bodyPost_ret (v := .agg #[.int .i64 (s), .int .i64 (0), .int .i64 (c)]) (by simp [results, Tryd.results34, go_sem]) rfl ⟨by simp [dS, dR, dC, HH.out, HK.out], ?_⟩
  repeat (first | exact Below.refl _ _ | refine Below.alloc ?_ (by simp <;> omega) _ | refine Below.drew ?_ | refine Below.setCell ?_ (by simp) _)

set_option maxHeartbeats 1000000 in
theorem after_3 (s r c p : Int) (r0 : 0 ≤ r) (r1 : r ≤ 512) (w : World) :
    Calls Tryd.prog 34 #[.agg #[.int .i64 s, .int .i64 r, .int .i64 c], .agg #[.int .i64 3, .int .i64 p]] w fun e w' => e = .returned (.agg #[.int .i64 (dS s r 3), .int .i64 (dR s r 3), .int .i64 (dC s c 3 p)]) ∧ Below w.heap.size w w' := by
  go_enter Tryd.func34, Tryd.ntmps34
  go_wp2
  try (go_region; all_goals go_wp2)
  refine bodyPost_ret (v := .agg #[.int .i64 (2), .int .i64 (r), .int .i64 (c)]) (by simp [results, Tryd.results34, go_sem]) rfl ⟨by simp [dS, dR, dC], ?_⟩
  repeat (first | exact Below.refl _ _ | refine Below.alloc ?_ (by simp <;> omega) _ | refine Below.drew ?_ | refine Below.setCell ?_ (by simp) _)

set_option maxHeartbeats 1000000 in
theorem after_4 (s r c p : Int) (r0 : 0 ≤ r) (r1 : r ≤ 512) (w : World) :
    Calls Tryd.prog 34 #[.agg #[.int .i64 s, .int .i64 r, .int .i64 c], .agg #[.int .i64 4, .int .i64 p]] w fun e w' => e = .returned (.agg #[.int .i64 (dS s r 4), .int .i64 (dR s r 4), .int .i64 (dC s c 4 p)]) ∧ Below w.heap.size w w' := by
  go_enter Tryd.func34, Tryd.ntmps34
  go_wp2
  try (go_region; all_goals go_wp2)
  refine bodyPost_ret (v := .agg #[.int .i64 (3), .int .i64 (r), .int .i64 (p)]) (by simp [results, Tryd.results34, go_sem]) rfl ⟨by simp [dS, dR, dC], ?_⟩
  repeat (first | exact Below.refl _ _ | refine Below.alloc ?_ (by simp <;> omega) _ | refine Below.drew ?_ | refine Below.setCell ?_ (by simp) _)

set_option maxHeartbeats 1000000 in
theorem after_5 (s r c p : Int) (r0 : 0 ≤ r) (r1 : r ≤ 512) (w : World) :
    Calls Tryd.prog 34 #[.agg #[.int .i64 s, .int .i64 r, .int .i64 c], .agg #[.int .i64 5, .int .i64 p]] w fun e w' => e = .returned (.agg #[.int .i64 (dS s r 5), .int .i64 (dR s r 5), .int .i64 (dC s c 5 p)]) ∧ Below w.heap.size w w' := by
  go_enter Tryd.func34, Tryd.ntmps34
  go_wp2
  try (go_region; all_goals go_wp2)
  refine bodyPost_ret (v := .agg #[.int .i64 (2), .int .i64 (r), .int .i64 (0)]) (by simp [results, Tryd.results34, go_sem]) rfl ⟨by simp [dS, dR, dC], ?_⟩
  repeat (first | exact Below.refl _ _ | refine Below.alloc ?_ (by simp <;> omega) _ | refine Below.drew ?_ | refine Below.setCell ?_ (by simp) _)

set_option maxHeartbeats 1000000 in
theorem after_6a (r c p : Int) (r0 : 0 ≤ r) (r1 : r ≤ 512) (w : World) :
    Calls Tryd.prog 34 #[.agg #[.int .i64 3, .int .i64 r, .int .i64 c], .agg #[.int .i64 6, .int .i64 p]] w fun e w' => e = .returned (.agg #[.int .i64 (dS 3 r 6), .int .i64 (dR 3 r 6), .int .i64 (dC 3 c 6 p)]) ∧ Below w.heap.size w w' := by
  go_enter Tryd.func34, Tryd.ntmps34
  go_wp2
  try (go_region; all_goals go_wp2)
  refine bodyPost_ret (v := .agg #[.int .i64 (5), .int .i64 (r - 1), .int .i64 (0)]) (by simp [results, Tryd.results34, go_sem]) rfl ⟨by simp [dS, dR, dC], ?_⟩
  repeat (first | exact Below.refl _ _ | refine Below.alloc ?_ (by simp <;> omega) _ | refine Below.drew ?_ | refine Below.setCell ?_ (by simp) _)

set_option maxHeartbeats 1000000 in
theorem after_6b (s c p : Int) (h : ¬ s = 3) (w : World) :
    Calls Tryd.prog 34 #[.agg #[.int .i64 s, .int .i64 0, .int .i64 c], .agg #[.int .i64 6, .int .i64 p]] w fun e w' => e = .returned (.agg #[.int .i64 (dS s 0 6), .int .i64 (dR s 0 6), .int .i64 (dC s c 6 p)]) ∧ Below w.heap.size w w' := by
  have e3 : (s == 3) = false := by simp [h]
  have HH := hid h
  clear h
  go_enter Tryd.func34, Tryd.ntmps34
  go_wp2
  try (go_region; all_goals go_wp2)
  refine bodyPost_ret (v := .agg #[.int .i64 (6), .int .i64 (0), .int .i64 (c)]) (by simp [results, Tryd.results34, go_sem]) rfl ⟨by simp [dS, dR, dC, HH.out], ?_⟩
  repeat (first | exact Below.refl _ _ | refine Below.alloc ?_ (by simp <;> omega) _ | refine Below.drew ?_ | refine Below.setCell ?_ (by simp) _)

set_option maxHeartbeats 1000000 in
theorem after_6c (s r c p : Int) (r0 : 0 ≤ r) (r1 : r ≤ 512) (h : ¬ s = 3) (h' : ¬ r = 0) (w : World) :
    Calls Tryd.prog 34 #[.agg #[.int .i64 s, .int .i64 r, .int .i64 c], .agg #[.int .i64 6, .int .i64 p]] w fun e w' => e = .returned (.agg #[.int .i64 (dS s r 6), .int .i64 (dR s r 6), .int .i64 (dC s c 6 p)]) ∧ Below w.heap.size w w' := by
  have e3 : (s == 3) = false := by simp [h]
  have e0 : (r == 0) = false := by simp [h']
  have HH := hid h
  have HK := hid h'
  clear h h'
  go_enter Tryd.func34, Tryd.ntmps34
  go_wp2
  try (go_region; all_goals go_wp2)
  refine bodyPost_ret (v := .agg #[.int .i64 (4), .int .i64 (r), .int .i64 (c)]) (by simp [results, Tryd.results34, go_sem]) rfl ⟨by simp [dS, dR, dC, HH.out, HK.out], ?_⟩
  repeat (first | exact Below.refl _ _ | refine Below.alloc ?_ (by simp <;> omega) _ | refine Below.drew ?_ | refine Below.setCell ?_ (by simp) _)

theorem after_any (s r c k p : Int) (r0 : 0 ≤ r) (r1 : r ≤ 512) (k0 : 1 ≤ k) (k1 : k ≤ 6) (w : World) :
    Calls Tryd.prog 34 #[.agg #[.int .i64 s, .int .i64 r, .int .i64 c], .agg #[.int .i64 k, .int .i64 p]] w fun e w' => e = .returned (.agg #[.int .i64 (dS s r k), .int .i64 (dR s r k), .int .i64 (dC s c k p)]) ∧ Below w.heap.size w w' := by
  rcases (show k = 1 ∨ k = 2 ∨ k = 3 ∨ k = 4 ∨ k = 5 ∨ k = 6 by omega) with rfl | rfl | rfl | rfl | rfl | rfl
  · exact after_1 s r c p r0 r1 w
  · by_cases h : r = 1
    · subst h
      by_cases h1 : s = 1
      · subst h1; exact after_2b1 c p w
      · by_cases h4 : s = 4
        · subst h4; exact after_2b4 c p w
        · exact after_2c s c p h1 h4 w
    · exact after_2a s r c p r0 r1 h w
  · exact after_3 s r c p r0 r1 w
  · exact after_4 s r c p r0 r1 w
  · exact after_5 s r c p r0 r1 w
  · by_cases h : s = 3
    · subst h; exact after_6a r c p r0 r1 w
    · by_cases h0 : r = 0
      · subst h0; exact after_6b s c p h w
      · exact after_6c s r c p r0 r1 h h0 w


set_option maxHeartbeats 1000000 in
theorem rpos_1 (s r c : Int) (s0 : 1 ≤ s) (s1 : s ≤ 6) (r0 : 0 ≤ r) (r1 : r ≤ 512) (w : World) :
    Calls Tryd.prog 33 #[.agg #[.int .i64 s, .int .i64 r, .int .i64 c], .int .i64 1] w fun e w' => e = .returned (.int .i64 (posE s r 1)) ∧ Below w.heap.size w w' := by
  go_enter Tryd.func33, Tryd.ntmps33
  go_wp2
  all_goals (go_ret; refine ⟨ret_int ?_, by repeat (first | exact Below.refl _ _ | refine Below.alloc ?_ (by simp <;> omega) _)⟩)
  all_goals go_light
  all_goals (try simp only [bne_iff_ne, bne_eq_false_iff_eq, ne_eq, beq_iff_eq, beq_eq_false_iff_ne, decide_eq_true_eq, decide_eq_false_iff_not] at *)
  all_goals (unfold posE; (repeat' split) <;> omega)

set_option maxHeartbeats 1000000 in
theorem rpos_2 (s r c : Int) (s0 : 1 ≤ s) (s1 : s ≤ 6) (r0 : 0 ≤ r) (r1 : r ≤ 512) (w : World) :
    Calls Tryd.prog 33 #[.agg #[.int .i64 s, .int .i64 r, .int .i64 c], .int .i64 2] w fun e w' => e = .returned (.int .i64 (posE s r 2)) ∧ Below w.heap.size w w' := by
  go_enter Tryd.func33, Tryd.ntmps33
  go_wp2
  all_goals (go_ret; refine ⟨ret_int ?_, by repeat (first | exact Below.refl _ _ | refine Below.alloc ?_ (by simp <;> omega) _)⟩)
  all_goals go_light
  all_goals (try simp only [bne_iff_ne, bne_eq_false_iff_eq, ne_eq, beq_iff_eq, beq_eq_false_iff_ne, decide_eq_true_eq, decide_eq_false_iff_not] at *)
  all_goals (unfold posE; (repeat' split) <;> omega)

set_option maxHeartbeats 1000000 in
theorem rpos_3 (s r c : Int) (s0 : 1 ≤ s) (s1 : s ≤ 6) (r0 : 0 ≤ r) (r1 : r ≤ 512) (w : World) :
    Calls Tryd.prog 33 #[.agg #[.int .i64 s, .int .i64 r, .int .i64 c], .int .i64 3] w fun e w' => e = .returned (.int .i64 (posE s r 3)) ∧ Below w.heap.size w w' := by
  go_enter Tryd.func33, Tryd.ntmps33
  go_wp2
  all_goals (go_ret; refine ⟨ret_int ?_, by repeat (first | exact Below.refl _ _ | refine Below.alloc ?_ (by simp <;> omega) _)⟩)
  all_goals go_light
  all_goals (try simp only [bne_iff_ne, bne_eq_false_iff_eq, ne_eq, beq_iff_eq, beq_eq_false_iff_ne, decide_eq_true_eq, decide_eq_false_iff_not] at *)
  all_goals (unfold posE; (repeat' split) <;> omega)

set_option maxHeartbeats 1000000 in
theorem rpos_4 (s r c : Int) (s0 : 1 ≤ s) (s1 : s ≤ 6) (r0 : 0 ≤ r) (r1 : r ≤ 512) (w : World) :
    Calls Tryd.prog 33 #[.agg #[.int .i64 s, .int .i64 r, .int .i64 c], .int .i64 4] w fun e w' => e = .returned (.int .i64 (posE s r 4)) ∧ Below w.heap.size w w' := by
  go_enter Tryd.func33, Tryd.ntmps33
  go_wp2
  all_goals (go_ret; refine ⟨ret_int ?_, by repeat (first | exact Below.refl _ _ | refine Below.alloc ?_ (by simp <;> omega) _)⟩)
  all_goals go_light
  all_goals (try simp only [bne_iff_ne, bne_eq_false_iff_eq, ne_eq, beq_iff_eq, beq_eq_false_iff_ne, decide_eq_true_eq, decide_eq_false_iff_not] at *)
  all_goals (unfold posE; (repeat' split) <;> omega)

set_option maxHeartbeats 1000000 in
theorem rpos_5 (s r c : Int) (s0 : 1 ≤ s) (s1 : s ≤ 6) (r0 : 0 ≤ r) (r1 : r ≤ 512) (w : World) :
    Calls Tryd.prog 33 #[.agg #[.int .i64 s, .int .i64 r, .int .i64 c], .int .i64 5] w fun e w' => e = .returned (.int .i64 (posE s r 5)) ∧ Below w.heap.size w w' := by
  go_enter Tryd.func33, Tryd.ntmps33
  go_wp2
  all_goals (go_ret; refine ⟨ret_int ?_, by repeat (first | exact Below.refl _ _ | refine Below.alloc ?_ (by simp <;> omega) _)⟩)
  all_goals go_light
  all_goals (try simp only [bne_iff_ne, bne_eq_false_iff_eq, ne_eq, beq_iff_eq, beq_eq_false_iff_ne, decide_eq_true_eq, decide_eq_false_iff_not] at *)
  all_goals (unfold posE; (repeat' split) <;> omega)

set_option maxHeartbeats 1000000 in
theorem rpos_6 (s r c : Int) (s0 : 1 ≤ s) (s1 : s ≤ 6) (r0 : 0 ≤ r) (r1 : r ≤ 512) (w : World) :
    Calls Tryd.prog 33 #[.agg #[.int .i64 s, .int .i64 r, .int .i64 c], .int .i64 6] w fun e w' => e = .returned (.int .i64 (posE s r 6)) ∧ Below w.heap.size w w' := by
  go_enter Tryd.func33, Tryd.ntmps33
  go_wp2
  all_goals (go_ret; refine ⟨ret_int ?_, by repeat (first | exact Below.refl _ _ | refine Below.alloc ?_ (by simp <;> omega) _)⟩)
  all_goals go_light
  all_goals (try simp only [bne_iff_ne, bne_eq_false_iff_eq, ne_eq, beq_iff_eq, beq_eq_false_iff_ne, decide_eq_true_eq, decide_eq_false_iff_not] at *)
  all_goals (unfold posE; (repeat' split) <;> omega)

theorem rpos_any (s r c k : Int) (s0 : 1 ≤ s) (s1 : s ≤ 6) (r0 : 0 ≤ r) (r1 : r ≤ 512) (k0 : 1 ≤ k) (k1 : k ≤ 6) (w : World) :
    Calls Tryd.prog 33 #[.agg #[.int .i64 s, .int .i64 r, .int .i64 c], .int .i64 k] w fun e w' => e = .returned (.int .i64 (posE s r k)) ∧ Below w.heap.size w w' := by
  rcases (show k = 1 ∨ k = 2 ∨ k = 3 ∨ k = 4 ∨ k = 5 ∨ k = 6 by omega) with rfl | rfl | rfl | rfl | rfl | rfl
  · exact rpos_1 s r c s0 s1 r0 r1 w
  · exact rpos_2 s r c s0 s1 r0 r1 w
  · exact rpos_3 s r c s0 s1 r0 r1 w
  · exact rpos_4 s r c s0 s1 r0 r1 w
  · exact rpos_5 s r c s0 s1 r0 r1 w
  · exact rpos_6 s r c s0 s1 r0 r1 w
end Go.Proofs.YtaklhokabnjjcaaDoor
