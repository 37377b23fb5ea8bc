import Derived.Test.YtaklhokabnjjcaaDoorA
import Derived.Deep.Light
namespace Go.Proofs.YtaklhokabnjjcaaDoor
open Go.RowKit
set_option linter.unusedVariables false
set_option linter.unusedSimpArgs false

def dS (s r k : Int) : Int := if k = 1 then s else if k = 2 then (if r = 1 ∧ (s = 1 ∨ s = 4) then 6 else s) else if k = 3 then 2 else if k = 4 then 3 else if k = 5 then 2 else if s = 3 then 5 else if r = 0 then 6 else 4
def dR (s r k : Int) : Int := if k = 1 then r + 1 else if k = 2 then r - 1 else if k = 6 ∧ s = 3 then r - 1 else r
def dC (s c k p : Int) : Int := if k = 4 then p else if k = 5 then 0 else if k = 6 ∧ s = 3 then 0 else c

set_option maxHeartbeats 1000000 in
theorem does_1 (s r c p : Int) (r0 : 0 ≤ r) (r1 : r ≤ 512) (w : World) :
    Calls Tryd.prog 32 #[.agg #[.int .i64 s, .int .i64 r, .int .i64 c], .agg #[.int .i64 1, .int .i64 p]] w fun e w' => e = .returned (.agg #[.int .i64 (dS s r 1), .int .i64 (dR s r 1), .int .i64 (dC s c 1 p)]) ∧ Below w.heap.size w w' := by
  go_enter Tryd.func32, Tryd.ntmps32
  go_wp2
  try (go_region; all_goals go_wp2)
  refine bodyPost_ret (v := .agg #[.int .i64 (s), .int .i64 (r + 1), .int .i64 (c)]) (by simp [results, Tryd.results32, go_sem]) rfl ⟨by simp [dS, dR, dC], ?_⟩
  repeat (first | exact Below.refl _ _ | refine Below.alloc ?_ (by simp <;> omega) _ | refine Below.drew ?_ | refine Below.setCell ?_ (by simp) _)

set_option maxHeartbeats 1000000 in
theorem does_2a (s r c p : Int) (r0 : 0 ≤ r) (r1 : r ≤ 512) (h : ¬ r = 1) (w : World) :
    Calls Tryd.prog 32 #[.agg #[.int .i64 s, .int .i64 r, .int .i64 c], .agg #[.int .i64 2, .int .i64 p]] w fun e w' => e = .returned (.agg #[.int .i64 (dS s r 2), .int .i64 (dR s r 2), .int .i64 (dC s c 2 p)]) ∧ Below w.heap.size w w' := by
  have e1 : (r - 1 == 0) = false := by simp; omega
  have HH := hid h
  clear h
  go_enter Tryd.func32, Tryd.ntmps32
  go_wp2
  try (go_region; all_goals go_wp2)
  refine bodyPost_ret (v := .agg #[.int .i64 (s), .int .i64 (r - 1), .int .i64 (c)]) (by simp [results, Tryd.results32, go_sem]) rfl ⟨by simp [dS, dR, dC, HH.out], ?_⟩
  repeat (first | exact Below.refl _ _ | refine Below.alloc ?_ (by simp <;> omega) _ | refine Below.drew ?_ | refine Below.setCell ?_ (by simp) _)

set_option maxHeartbeats 1000000 in
theorem does_2b1 (c p : Int) (w : World) :
    Calls Tryd.prog 32 #[.agg #[.int .i64 1, .int .i64 1, .int .i64 c], .agg #[.int .i64 2, .int .i64 p]] w fun e w' => e = .returned (.agg #[.int .i64 (dS 1 1 2), .int .i64 (dR 1 1 2), .int .i64 (dC 1 c 2 p)]) ∧ Below w.heap.size w w' := by
  go_enter Tryd.func32, Tryd.ntmps32
  go_wp2
  try (go_region; all_goals go_wp2)
  refine bodyPost_ret (v := .agg #[.int .i64 (6), .int .i64 (0), .int .i64 (c)]) (by simp [results, Tryd.results32, go_sem]) rfl ⟨by simp [dS, dR, dC], ?_⟩
  repeat (first | exact Below.refl _ _ | refine Below.alloc ?_ (by simp <;> omega) _ | refine Below.drew ?_ | refine Below.setCell ?_ (by simp) _)

set_option maxHeartbeats 1000000 in
theorem does_2b4 (c p : Int) (w : World) :
    Calls Tryd.prog 32 #[.agg #[.int .i64 4, .int .i64 1, .int .i64 c], .agg #[.int .i64 2, .int .i64 p]] w fun e w' => e = .returned (.agg #[.int .i64 (dS 4 1 2), .int .i64 (dR 4 1 2), .int .i64 (dC 4 c 2 p)]) ∧ Below w.heap.size w w' := by
  go_enter Tryd.func32, Tryd.ntmps32
  go_wp2
  try (go_region; all_goals go_wp2)
  refine bodyPost_ret (v := .agg #[.int .i64 (6), .int .i64 (0), .int .i64 (c)]) (by simp [results, Tryd.results32, go_sem]) rfl ⟨by simp [dS, dR, dC], ?_⟩
  repeat (first | exact Below.refl _ _ | refine Below.alloc ?_ (by simp <;> omega) _ | refine Below.drew ?_ | refine Below.setCell ?_ (by simp) _)

set_option maxHeartbeats 1000000 in
theorem does_2c (s c p : Int) (h : ¬ s = 1) (h' : ¬ s = 4) (w : World) :
    Calls Tryd.prog 32 #[.agg #[.int .i64 s, .int .i64 1, .int .i64 c], .agg #[.int .i64 2, .int .i64 p]] w fun e w' => e = .returned (.agg #[.int .i64 (dS s 1 2), .int .i64 (dR s 1 2), .int .i64 (dC s c 2 p)]) ∧ Below w.heap.size w w' := by
  have e1 : (s == 1) = false := by simp [h]
  have e4 : (s == 4) = false := by simp [h']
  have HH := hid h
  have HK := hid h'
  clear h h'
  go_enter Tryd.func32, Tryd.ntmps32
  go_wp2
  try (go_region; all_goals go_wp2)
  refine bodyPost_ret (v := .agg #[.int .i64 (s), .int .i64 (0), .int .i64 (c)]) (by simp [results, Tryd.results32, go_sem]) rfl ⟨by simp [dS, dR, dC, HH.out, HK.out], ?_⟩
  repeat (first | exact Below.refl _ _ | refine Below.alloc ?_ (by simp <;> omega) _ | refine Below.drew ?_ | refine Below.setCell ?_ (by simp) _)

set_option maxHeartbeats 1000000 in
theorem does_3 (s r c p : Int) (r0 : 0 ≤ r) (r1 : r ≤ 512) (w : World) :
    Calls Tryd.prog 32 #[.agg #[.int .i64 s, .int .i64 r, .int .i64 c], .agg #[.int .i64 3, .int .i64 p]] w fun e w' => e = .returned (.agg #[.int .i64 (dS s r 3), .int .i64 (dR s r 3), .int .i64 (dC s c 3 p)]) ∧ Below w.heap.size w w' := by
  go_enter Tryd.func32, Tryd.ntmps32
  go_wp2
  try (go_region; all_goals go_wp2)
  refine bodyPost_ret (v := .agg #[.int .i64 (2), .int .i64 (r), .int .i64 (c)]) (by simp [results, Tryd.results32, go_sem]) rfl ⟨by simp [dS, dR, dC], ?_⟩
  repeat (first | exact Below.refl _ _ | refine Below.alloc ?_ (by simp <;> omega) _ | refine Below.drew ?_ | refine Below.setCell ?_ (by simp) _)

set_option maxHeartbeats 1000000 in
theorem does_4 (s r c p : Int) (r0 : 0 ≤ r) (r1 : r ≤ 512) (w : World) :
    Calls Tryd.prog 32 #[.agg #[.int .i64 s, .int .i64 r, .int .i64 c], .agg #[.int .i64 4, .int .i64 p]] w fun e w' => e = .returned (.agg #[.int .i64 (dS s r 4), .int .i64 (dR s r 4), .int .i64 (dC s c 4 p)]) ∧ Below w.heap.size w w' := by
  go_enter Tryd.func32, Tryd.ntmps32
  go_wp2
  try (go_region; all_goals go_wp2)
  refine bodyPost_ret (v := .agg #[.int .i64 (3), .int .i64 (r), .int .i64 (p)]) (by simp [results, Tryd.results32, go_sem]) rfl ⟨by simp [dS, dR, dC], ?_⟩
  repeat (first | exact Below.refl _ _ | refine Below.alloc ?_ (by simp <;> omega) _ | refine Below.drew ?_ | refine Below.setCell ?_ (by simp) _)

set_option maxHeartbeats 1000000 in
theorem does_5 (s r c p : Int) (r0 : 0 ≤ r) (r1 : r ≤ 512) (w : World) :
    Calls Tryd.prog 32 #[.agg #[.int .i64 s, .int .i64 r, .int .i64 c], .agg #[.int .i64 5, .int .i64 p]] w fun e w' => e = .returned (.agg #[.int .i64 (dS s r 5), .int .i64 (dR s r 5), .int .i64 (dC s c 5 p)]) ∧ Below w.heap.size w w' := by
  go_enter Tryd.func32, Tryd.ntmps32
  go_wp2
  try (go_region; all_goals go_wp2)
  refine bodyPost_ret (v := .agg #[.int .i64 (2), .int .i64 (r), .int .i64 (0)]) (by simp [results, Tryd.results32, go_sem]) rfl ⟨by simp [dS, dR, dC], ?_⟩
  repeat (first | exact Below.refl _ _ | refine Below.alloc ?_ (by simp <;> omega) _ | refine Below.drew ?_ | refine Below.setCell ?_ (by simp) _)

set_option maxHeartbeats 1000000 in
theorem does_6a (r c p : Int) (r0 : 0 ≤ r) (r1 : r ≤ 512) (w : World) :
    Calls Tryd.prog 32 #[.agg #[.int .i64 3, .int .i64 r, .int .i64 c], .agg #[.int .i64 6, .int .i64 p]] w fun e w' => e = .returned (.agg #[.int .i64 (dS 3 r 6), .int .i64 (dR 3 r 6), .int .i64 (dC 3 c 6 p)]) ∧ Below w.heap.size w w' := by
  go_enter Tryd.func32, Tryd.ntmps32
  go_wp2
  try (go_region; all_goals go_wp2)
  refine bodyPost_ret (v := .agg #[.int .i64 (5), .int .i64 (r - 1), .int .i64 (0)]) (by simp [results, Tryd.results32, go_sem]) rfl ⟨by simp [dS, dR, dC], ?_⟩
  repeat (first | exact Below.refl _ _ | refine Below.alloc ?_ (by simp <;> omega) _ | refine Below.drew ?_ | refine Below.setCell ?_ (by simp) _)

set_option maxHeartbeats 1000000 in
theorem does_6b (s c p : Int) (h : ¬ s = 3) (w : World) :
    Calls Tryd.prog 32 #[.agg #[.int .i64 s, .int .i64 0, .int .i64 c], .agg #[.int .i64 6, .int .i64 p]] w fun e w' => e = .returned (.agg #[.int .i64 (dS s 0 6), .int .i64 (dR s 0 6), .int .i64 (dC s c 6 p)]) ∧ Below w.heap.size w w' := by
  have e3 : (s == 3) = false := by simp [h]
  have HH := hid h
  clear h
  go_enter Tryd.func32, Tryd.ntmps32
  go_wp2
  try (go_region; all_goals go_wp2)
  refine bodyPost_ret (v := .agg #[.int .i64 (6), .int .i64 (0), .int .i64 (c)]) (by simp [results, Tryd.results32, go_sem]) rfl ⟨by simp [dS, dR, dC, HH.out], ?_⟩
  repeat (first | exact Below.refl _ _ | refine Below.alloc ?_ (by simp <;> omega) _ | refine Below.drew ?_ | refine Below.setCell ?_ (by simp) _)

set_option maxHeartbeats 1000000 in
theorem does_6c (s r c p : Int) (r0 : 0 ≤ r) (r1 : r ≤ 512) (h : ¬ s = 3) (h' : ¬ r = 0) (w : World) :
    Calls Tryd.prog 32 #[.agg #[.int .i64 s, .int .i64 r, .int .i64 c], .agg #[.int .i64 6, .int .i64 p]] w fun e w' => e = .returned (.agg #[.int .i64 (dS s r 6), .int .i64 (dR s r 6), .int .i64 (dC s c 6 p)]) ∧ Below w.heap.size w w' := by
  have e3 : (s == 3) = false := by simp [h]
  have e0 : (r == 0) = false := by simp [h']
  have HH := hid h
  have HK := hid h'
  clear h h'
  go_enter Tryd.func32, Tryd.ntmps32
  go_wp2
  try (go_region; all_goals go_wp2)
  refine bodyPost_ret (v := .agg #[.int .i64 (4), .int .i64 (r), .int .i64 (c)]) (by simp [results, Tryd.results32, go_sem]) rfl ⟨by simp [dS, dR, dC, HH.out, HK.out], ?_⟩
  repeat (first | exact Below.refl _ _ | refine Below.alloc ?_ (by simp <;> omega) _ | refine Below.drew ?_ | refine Below.setCell ?_ (by simp) _)

theorem does_any (s r c k p : Int) (r0 : 0 ≤ r) (r1 : r ≤ 512) (k0 : 1 ≤ k) (k1 : k ≤ 6) (w : World) :
    Calls Tryd.prog 32 #[.agg #[.int .i64 s, .int .i64 r, .int .i64 c], .agg #[.int .i64 k, .int .i64 p]] w fun e w' => e = .returned (.agg #[.int .i64 (dS s r k), .int .i64 (dR s r k), .int .i64 (dC s c k p)]) ∧ Below w.heap.size w w' := by
  rcases (show k = 1 ∨ k = 2 ∨ k = 3 ∨ k = 4 ∨ k = 5 ∨ k = 6 by omega) with rfl | rfl | rfl | rfl | rfl | rfl
  · exact does_1 s r c p r0 r1 w
  · by_cases h : r = 1
    · subst h
      by_cases h1 : s = 1
      · subst h1; exact does_2b1 c p w
      · by_cases h4 : s = 4
        · subst h4; exact does_2b4 c p w
        · exact does_2c s c p h1 h4 w
    · exact does_2a s r c p r0 r1 h w
  · exact does_3 s r c p r0 r1 w
  · exact does_4 s r c p r0 r1 w
  · exact does_5 s r c p r0 r1 w
  · by_cases h : s = 3
    · subst h; exact does_6a r c p r0 r1 w
    · by_cases h0 : r = 0
      · subst h0; exact does_6b s c p h w
      · exact does_6c s r c p r0 r1 h h0 w
end Go.Proofs.YtaklhokabnjjcaaDoor
