import Derived.Test.YtaklhokabnjjcaaDoorI
namespace Go.Proofs.YtaklhokabnjjcaaDoor
open Go.RowKit
set_option linter.unusedVariables false
set_option linter.unusedSimpArgs false

def roF (s r c : Int) : Int := if chk s r c = 0 then (if s = 1 ∨ s = 5 then 4 else if s = 2 ∨ s = 3 then 5 else 0) else 0
def slF (s r c : Int) : Bool := decide (chk s r c = 0) && (decide (s = 1 ∨ s = 6) || (!decide (s = 2 ∨ s = 3) && (r == 0)))
def slB (s r c : Int) : Bool := decide (chk s r c = 0) && decide (s = 2 ∨ s = 3)
theorem chk_gone {r c : Int} (h : chk 6 r c = 0) : r = 0 := by
  unfold chk at h
  (repeat' split at h) <;> omega

theorem role_any (s r c : Int) (w : World) :
    Calls Tryd.prog 23 #[.agg #[.int .i64 s, .int .i64 r, .int .i64 c]] w fun e w' => e = .returned (.tuple #[.int .i64 (roF s r c), .int .i64 (chk s r c)]) ∧ Below w.heap.size w w' := by
  by_cases h : chk s r c = 0
  · obtain ⟨s0, s1, _, _⟩ := chk_bounds h
    have hr : roF s r c = (if s = 1 ∨ s = 5 then 4 else if s = 2 ∨ s = 3 then 5 else 0) := by unfold roF; rw [if_pos h]
    rw [hr, h]
    have H := hid h
    clear h hr
    rcases (show s = 1 ∨ s = 2 ∨ s = 3 ∨ s = 4 ∨ s = 5 ∨ s = 6 by omega) with rfl | rfl | rfl | rfl | rfl | rfl
    all_goals
      go_enter Tryd.func23, Tryd.ntmps23
      go_wp2_with fail
      refine (check_any _ _ _ _).mono ?_
      rintro e w' ⟨rfl, rfl⟩
      rw [H.out]
      go_wp2_with fail
      go_ret2
      refine ⟨rfl, ?_⟩
      repeat (first | exact Below.refl _ _ | refine Below.alloc ?_ (by simp <;> omega) _)
  · rw [show roF s r c = 0 from by simp [roF, h]]
    have e1 : (chk s r c != 0) = true := by simp [h]
    clear h
    go_enter Tryd.func23, Tryd.ntmps23
    go_wp2_with fail
    refine (check_any _ _ _ _).mono ?_
    rintro e w' ⟨rfl, rfl⟩
    go_wp2_with fail
    go_ret2
    refine ⟨rfl, ?_⟩
    repeat (first | exact Below.refl _ _ | refine Below.alloc ?_ (by simp <;> omega) _)

theorem rrole_any (s r c : Int) (w : World) :
    Calls Tryd.prog 24 #[.agg #[.int .i64 s, .int .i64 r, .int .i64 c]] w fun e w' => e = .returned (.tuple #[.int .i64 (roF s r c), .int .i64 (chk s r c)]) ∧ Below w.heap.size w w' := by
  by_cases h : chk s r c = 0
  · obtain ⟨s0, s1, _, _⟩ := chk_bounds h
    have hr : roF s r c = (if s = 1 ∨ s = 5 then 4 else if s = 2 ∨ s = 3 then 5 else 0) := by unfold roF; rw [if_pos h]
    rw [hr, h]
    have H := hid h
    clear h hr
    rcases (show s = 1 ∨ s = 2 ∨ s = 3 ∨ s = 4 ∨ s = 5 ∨ s = 6 by omega) with rfl | rfl | rfl | rfl | rfl | rfl
    all_goals
      go_enter Tryd.func24, Tryd.ntmps24
      go_wp2_with fail
      refine (rcheck_any _ _ _ _).mono ?_
      rintro e w' ⟨rfl, rfl⟩
      rw [H.out]
      go_wp2_with fail
      go_ret2
      refine ⟨rfl, ?_⟩
      repeat (first | exact Below.refl _ _ | refine Below.alloc ?_ (by simp <;> omega) _)
  · rw [show roF s r c = 0 from by simp [roF, h]]
    have e1 : (chk s r c != 0) = true := by simp [h]
    clear h
    go_enter Tryd.func24, Tryd.ntmps24
    go_wp2_with fail
    refine (rcheck_any _ _ _ _).mono ?_
    rintro e w' ⟨rfl, rfl⟩
    go_wp2_with fail
    go_ret2
    refine ⟨rfl, ?_⟩
    repeat (first | exact Below.refl _ _ | refine Below.alloc ?_ (by simp <;> omega) _)

theorem slot_any (s r c : Int) (w : World) :
    Calls Tryd.prog 25 #[.agg #[.int .i64 s, .int .i64 r, .int .i64 c]] w fun e w' => e = .returned (.tuple #[.bool (slF s r c), .bool (slB s r c), .int .i64 (chk s r c)]) ∧ Below w.heap.size w w' := by
  by_cases h : chk s r c = 0
  · obtain ⟨s0, s1, _, _⟩ := chk_bounds h
    have hr : slF s r c = (decide (s = 1 ∨ s = 6) || (!decide (s = 2 ∨ s = 3) && (r == 0))) := by simp [slF, h]
    have hs : slB s r c = decide (s = 2 ∨ s = 3) := by simp [slB, h]
    rw [hr, hs, h]
    clear hr hs
    rcases (show s = 1 ∨ s = 2 ∨ s = 3 ∨ s = 4 ∨ s = 5 ∨ s = 6 by omega) with rfl | rfl | rfl | rfl | rfl | rfl
    case inr.inr.inr.inr.inr => 
      obtain rfl := chk_gone h
      have H := hid h
      clear h
      go_enter Tryd.func25, Tryd.ntmps25
      go_wp2_with fail
      refine (check_any _ _ _ _).mono ?_
      rintro e w' ⟨rfl, rfl⟩
      rw [H.out]
      go_wp2_with fail
      go_ret3
      refine ⟨rfl, ?_⟩
      repeat (first | exact Below.refl _ _ | refine Below.alloc ?_ (by simp <;> omega) _)
    all_goals
      have H := hid h
      clear h
      by_cases hr : r = 0
      · subst hr
        go_enter Tryd.func25, Tryd.ntmps25
        go_wp2_with fail
        refine (check_any _ _ _ _).mono ?_
        rintro e w' ⟨rfl, rfl⟩
        rw [H.out]
        go_wp2_with fail
        go_ret3
        refine ⟨rfl, ?_⟩
        repeat (first | exact Below.refl _ _ | refine Below.alloc ?_ (by simp <;> omega) _)
      · have e0 : (r == 0) = false := by simp [hr]
        clear hr
        rw [e0]
        go_enter Tryd.func25, Tryd.ntmps25
        go_wp2_with fail
        refine (check_any _ _ _ _).mono ?_
        rintro e w' ⟨rfl, rfl⟩
        rw [H.out]
        go_wp2_with fail
        go_ret3
        refine ⟨rfl, ?_⟩
        repeat (first | exact Below.refl _ _ | refine Below.alloc ?_ (by simp <;> omega) _)
  · rw [show slF s r c = false from by simp [slF, h], show slB s r c = false from by simp [slB, h]]
    have e1 : (chk s r c != 0) = true := by simp [h]
    clear h
    go_enter Tryd.func25, Tryd.ntmps25
    go_wp2_with fail
    refine (check_any _ _ _ _).mono ?_
    rintro e w' ⟨rfl, rfl⟩
    go_wp2_with fail
    go_ret3
    refine ⟨rfl, ?_⟩
    repeat (first | exact Below.refl _ _ | refine Below.alloc ?_ (by simp <;> omega) _)

theorem rslot_any (s r c : Int) (w : World) :
    Calls Tryd.prog 26 #[.agg #[.int .i64 s, .int .i64 r, .int .i64 c]] w fun e w' => e = .returned (.tuple #[.bool (slF s r c), .bool (slB s r c), .int .i64 (chk s r c)]) ∧ Below w.heap.size w w' := by
  by_cases h : chk s r c = 0
  · obtain ⟨s0, s1, _, _⟩ := chk_bounds h
    have hr : slF s r c = (decide (s = 1 ∨ s = 6) || (!decide (s = 2 ∨ s = 3) && (r == 0))) := by simp [slF, h]
    have hs : slB s r c = decide (s = 2 ∨ s = 3) := by simp [slB, h]
    rw [hr, hs, h]
    clear hr hs
    rcases (show s = 1 ∨ s = 2 ∨ s = 3 ∨ s = 4 ∨ s = 5 ∨ s = 6 by omega) with rfl | rfl | rfl | rfl | rfl | rfl
    case inr.inr.inr.inr.inr => 
      obtain rfl := chk_gone h
      have H := hid h
      clear h
      go_enter Tryd.func26, Tryd.ntmps26
      go_wp2_with fail
      refine (rcheck_any _ _ _ _).mono ?_
      rintro e w' ⟨rfl, rfl⟩
      rw [H.out]
      go_wp2_with fail
      go_ret3
      refine ⟨rfl, ?_⟩
      repeat (first | exact Below.refl _ _ | refine Below.alloc ?_ (by simp <;> omega) _)
    all_goals
      have H := hid h
      clear h
      by_cases hr : r = 0
      · subst hr
        go_enter Tryd.func26, Tryd.ntmps26
        go_wp2_with fail
        refine (rcheck_any _ _ _ _).mono ?_
        rintro e w' ⟨rfl, rfl⟩
        rw [H.out]
        go_wp2_with fail
        go_ret3
        refine ⟨rfl, ?_⟩
        repeat (first | exact Below.refl _ _ | refine Below.alloc ?_ (by simp <;> omega) _)
      · have e0 : (r == 0) = false := by simp [hr]
        clear hr
        rw [e0]
        go_enter Tryd.func26, Tryd.ntmps26
        go_wp2_with fail
        refine (rcheck_any _ _ _ _).mono ?_
        rintro e w' ⟨rfl, rfl⟩
        rw [H.out]
        go_wp2_with fail
        go_ret3
        refine ⟨rfl, ?_⟩
        repeat (first | exact Below.refl _ _ | refine Below.alloc ?_ (by simp <;> omega) _)
  · rw [show slF s r c = false from by simp [slF, h], show slB s r c = false from by simp [slB, h]]
    have e1 : (chk s r c != 0) = true := by simp [h]
    clear h
    go_enter Tryd.func26, Tryd.ntmps26
    go_wp2_with fail
    refine (rcheck_any _ _ _ _).mono ?_
    rintro e w' ⟨rfl, rfl⟩
    go_wp2_with fail
    go_ret3
    refine ⟨rfl, ?_⟩
    repeat (first | exact Below.refl _ _ | refine Below.alloc ?_ (by simp <;> omega) _)

theorem looks_walk (s : Int) (ws : (Lit.int .i64 s).wf = true) (r : Int) (wr : (Lit.int .i64 r).wf = true) (c : Int) (wc : (Lit.int .i64 c).wf = true) (w : World) (hG : GC w) :
    Calls Tryd.prog 6 #[.agg #[.int .i64 s, .int .i64 r, .int .i64 c]] w fun e w' => e = .returned (.bool true) ∧ Below w.heap.size w w' := by
  have HG := hid hG
  clear hG
  have HB := hid (B3.new w s r c 23)
  have hb := (Below.refl w.heap.size w).alloc (Nat.le_refl _) (.cells #[.int .i64 s, .int .i64 r, .int .i64 c] 23)
  go_enter Tryd.func6, Tryd.ntmps6
  go_wp2_with fail
  refine (role_any _ _ _ _).mono ?_
  rintro e w1 ⟨rfl, hc⟩
  have HB1 := hid (HB.out.below hc)
  have hb1 := hb.trans (hc.mono hb.size)
  clear hc HB hb
  obtain ⟨c0, c1, c2, f0, f1, f2⟩ := HB1.out
  go_wp2_with fail
  refine (rrole_any _ _ _ _).mono ?_
  rintro e w2 ⟨rfl, hc⟩
  have HB2 := hid (HB1.out.below hc)
  have hb2 := hb1.trans (hc.mono hb1.size)
  clear hc HB1 hb1 c0 c1 c2 f0 f1 f2
  obtain ⟨c0, c1, c2, f0, f1, f2⟩ := HB2.out
  go_wp2_with fail
  refine (slot_any _ _ _ _).mono ?_
  rintro e w3 ⟨rfl, hc⟩
  have HB3 := hid (HB2.out.below hc)
  have hb3 := hb2.trans (hc.mono hb2.size)
  clear hc HB2 hb2 c0 c1 c2 f0 f1 f2
  obtain ⟨c0, c1, c2, f0, f1, f2⟩ := HB3.out
  go_wp2_with fail
  refine (rslot_any _ _ _ _).mono ?_
  rintro e w4 ⟨rfl, hc⟩
  have HB4 := hid (HB3.out.below hc)
  have hb4 := hb3.trans (hc.mono hb3.size)
  clear hc HB3 hb3 c0 c1 c2 f0 f1 f2
  obtain ⟨c0, c1, c2, f0, f1, f2⟩ := HB4.out
  go_wp2_with fail
  refine (awake_any _ (HG.out.below hb4)).mono ?_
  rintro e w5 ⟨rfl, hc⟩
  go_wp2_with fail
  go_ret
  exact ⟨rfl, bt hb4 hc⟩
end Go.Proofs.YtaklhokabnjjcaaDoor
