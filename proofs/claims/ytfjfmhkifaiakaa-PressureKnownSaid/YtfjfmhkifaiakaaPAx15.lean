-- written by a program of this seat's prover out of the translation; Lean checks it
import Derived.Test.YtfjfmhkifaiakaaPAx0
import Derived.Test.YtfjfmhkifaiakaaPAx2
import Derived.Test.YtfjfmhkifaiakaaPAx4
import Derived.Test.YtfjfmhkifaiakaaPAx8
import Derived.Test.YtfjfmhkifaiakaaPAx10
import Derived.Test.YtfjfmhkifaiakaaPAx12
import Derived.Test.YtfjfmhkifaiakaaPAx14
namespace Go.Proofs.Ytfjfmhkifaiakaa.PA
open Go.RowKit Go.Proofs.YtfjfmhkifaiakaaW.PrintWords Go.Proofs.YtfjfmhkifaiakaaW.PrintLast Go.Proofs.YtfjfmhkifaiakaaW.PrintMore
attribute [local go_sem] max2_int min2_int max_two min_two max_three min_three max_four min_four   -- for this text's walks alone
set_option linter.unusedVariables false
set_option linter.unusedSimpArgs false

/-! ### headgatelaw32_PressureKnown: function 8 -/
mutual
def headgatelaw32_PressureKnown.j0 : Nat → Bool → Option (Bool)
  | 0, _ => none
  | k + 1, x40 => if x40 = true then (some false) else ((headgatelaw32_marks.f).bind fun bt400 => ((pressure_Spans.f k bt400.1 bt400.2.1 bt400.2.2 (([9, 4, 6, 8, 9, 8, 4] : List Int))).bind fun bt406 => ((headgatelaw32_marks.f).bind fun bt410 => ((pressure_Worst.f k bt410.1 bt410.2.1 bt410.2.2 (([9, 4, 2, 0] : List Int))).bind fun bt416 => ((headgatelaw32_marks.f).bind fun bt419 => ((pressure_Worst.f k bt419.1 bt419.2.1 bt419.2.2 ([] : List Int)).bind fun bt422 => (if bt406.2 = 0 then (if bt416.2.2 = 0 then (if bt422.2.2 = 0 then ((headgatelaw32_sameSpans.f k bt406.1 (([(⟨1, 3⟩ : S49), (⟨6, 6⟩ : S49)] : List (S49)))).bind fun t428 => (if t428 = true then (if bt416.1 = 3 then (if bt416.2.1 = 2 then (if bt422.1 = 0 then (headgatelaw32_PressureKnown.j1 k (bt422.2.1 != (-1))) else (headgatelaw32_PressureKnown.j1 k true)) else (headgatelaw32_PressureKnown.j1 k true)) else (headgatelaw32_PressureKnown.j1 k true)) else (headgatelaw32_PressureKnown.j1 k true))) else (headgatelaw32_PressureKnown.j1 k true)) else (headgatelaw32_PressureKnown.j1 k true)) else (headgatelaw32_PressureKnown.j1 k true))))))))
def headgatelaw32_PressureKnown.j1 : Nat → Bool → Option (Bool)
  | 0, _ => none
  | k + 1, x93 => if x93 = true then (some false) else ((headgatelaw32_misses.f k true 6 3).bind fun t429 => (if t429 = true then ((headgatelaw32_misses.f k false 6 0).bind fun t430 => (if t430 = true then ((headgatelaw32_misses.f k false 4 5).bind fun t431 => (if t431 = true then ((pressure_Check.f k 2 2 9).bind fun t432 => (if t432 = 8 then ((pressure_Check.f k (-1) 2 9).bind fun t433 => (if t433 = 2 then ((pressure_Check.f k 2 5 257).bind fun t434 => (if t434 = 2 then ((headgatelaw32_awake.f k).bind fun t435 => (some t435)) else (some false))) else (some false))) else (some false))) else (some false))) else (some false))) else (some false)))
end
def headgatelaw32_PressureKnown.f (k : Nat)  : Option (Bool) := (headgatelaw32_marks.f).bind fun bt389 => ((pressure_Level.f k bt389.1 bt389.2.1 bt389.2.2 257).bind fun bt392 => ((headgatelaw32_level.f k 5 1).bind fun t394 => (if t394 = true then ((headgatelaw32_level.f k 2 3).bind fun t395 => (if t395 = true then ((headgatelaw32_level.f k 0 3).bind fun t396 => (if t396 = true then (if bt392.2 = 2 then ((headgatelaw32_next.f k false 5 false).bind fun t397 => (if t397 = true then ((headgatelaw32_next.f k false 4 true).bind fun t398 => (if t398 = true then ((headgatelaw32_next.f k true 9 false).bind fun t399 => (headgatelaw32_PressureKnown.j0 k (!t399))) else (headgatelaw32_PressureKnown.j0 k true))) else (headgatelaw32_PressureKnown.j0 k true))) else (headgatelaw32_PressureKnown.j0 k true)) else (headgatelaw32_PressureKnown.j0 k true))) else (headgatelaw32_PressureKnown.j0 k true))) else (headgatelaw32_PressureKnown.j0 k true))))
theorem headgatelaw32_PressureKnown.mono_l : ∀ k, (∀ y0, LeO (headgatelaw32_PressureKnown.j0 k y0) (headgatelaw32_PressureKnown.j0 (k + 1) y0)) ∧ (∀ y0, LeO (headgatelaw32_PressureKnown.j1 k y0) (headgatelaw32_PressureKnown.j1 (k + 1) y0))
  | 0 => ⟨fun _ r h => by simp [headgatelaw32_PressureKnown.j0] at h, fun _ r h => by simp [headgatelaw32_PressureKnown.j1] at h⟩
  | k + 1 => by
    obtain ⟨ih0, ih1⟩ := headgatelaw32_PressureKnown.mono_l k
    refine ⟨?_, ?_⟩
    · intro y0
      unfold headgatelaw32_PressureKnown.j0
      repeat' first
      | (with_reducible exact ih0 _)
      | (with_reducible exact ih1 _)
      | (with_reducible exact headgatelaw32_awake.mono _)
      | (with_reducible exact headgatelaw32_level.mono _ _ _)
      | (with_reducible exact headgatelaw32_misses.mono _ _ _ _)
      | (with_reducible exact headgatelaw32_next.mono _ _ _ _)
      | (with_reducible exact headgatelaw32_sameSpans.mono _ _ _)
      | (with_reducible exact pressure_Check.mono _ _ _ _)
      | (with_reducible exact pressure_Level.mono _ _ _ _ _)
      | (with_reducible exact pressure_Spans.mono _ _ _ _ _)
      | (with_reducible exact pressure_Worst.mono _ _ _ _ _)
      | (with_reducible exact LeO.refl _)
      | (with_reducible exact LeO.none _)
      | (with_reducible refine LeO.ite ?_ ?_)
      | (with_reducible refine LeO.bind ?_ (fun _ => ?_))
      | exact ih0 _
      | exact ih1 _
      | exact headgatelaw32_awake.mono _
      | exact headgatelaw32_level.mono _ _ _
      | exact headgatelaw32_misses.mono _ _ _ _
      | exact headgatelaw32_next.mono _ _ _ _
      | exact headgatelaw32_sameSpans.mono _ _ _
      | exact pressure_Check.mono _ _ _ _
      | exact pressure_Level.mono _ _ _ _ _
      | exact pressure_Spans.mono _ _ _ _ _
      | exact pressure_Worst.mono _ _ _ _ _
      | exact LeO.none _
      | refine LeO.ite ?_ ?_
      | refine LeO.bind ?_ (fun _ => ?_)
    · intro y0
      unfold headgatelaw32_PressureKnown.j1
      repeat' first
      | (with_reducible exact ih0 _)
      | (with_reducible exact ih1 _)
      | (with_reducible exact headgatelaw32_awake.mono _)
      | (with_reducible exact headgatelaw32_level.mono _ _ _)
      | (with_reducible exact headgatelaw32_misses.mono _ _ _ _)
      | (with_reducible exact headgatelaw32_next.mono _ _ _ _)
      | (with_reducible exact headgatelaw32_sameSpans.mono _ _ _)
      | (with_reducible exact pressure_Check.mono _ _ _ _)
      | (with_reducible exact pressure_Level.mono _ _ _ _ _)
      | (with_reducible exact pressure_Spans.mono _ _ _ _ _)
      | (with_reducible exact pressure_Worst.mono _ _ _ _ _)
      | (with_reducible exact LeO.refl _)
      | (with_reducible exact LeO.none _)
      | (with_reducible refine LeO.ite ?_ ?_)
      | (with_reducible refine LeO.bind ?_ (fun _ => ?_))
      | exact ih0 _
      | exact ih1 _
      | exact headgatelaw32_awake.mono _
      | exact headgatelaw32_level.mono _ _ _
      | exact headgatelaw32_misses.mono _ _ _ _
      | exact headgatelaw32_next.mono _ _ _ _
      | exact headgatelaw32_sameSpans.mono _ _ _
      | exact pressure_Check.mono _ _ _ _
      | exact pressure_Level.mono _ _ _ _ _
      | exact pressure_Spans.mono _ _ _ _ _
      | exact pressure_Worst.mono _ _ _ _ _
      | exact LeO.none _
      | refine LeO.ite ?_ ?_
      | refine LeO.bind ?_ (fun _ => ?_)
theorem headgatelaw32_PressureKnown.mono : ∀ k, LeO (headgatelaw32_PressureKnown.f k ) (headgatelaw32_PressureKnown.f (k + 1) ) := by
  intro  k
  obtain ⟨ih0, ih1⟩ := headgatelaw32_PressureKnown.mono_l k
  unfold headgatelaw32_PressureKnown.f
  repeat' first
      | (with_reducible exact ih0 _)
      | (with_reducible exact ih1 _)
      | (with_reducible exact headgatelaw32_awake.mono _)
      | (with_reducible exact headgatelaw32_level.mono _ _ _)
      | (with_reducible exact headgatelaw32_misses.mono _ _ _ _)
      | (with_reducible exact headgatelaw32_next.mono _ _ _ _)
      | (with_reducible exact headgatelaw32_sameSpans.mono _ _ _)
      | (with_reducible exact pressure_Check.mono _ _ _ _)
      | (with_reducible exact pressure_Level.mono _ _ _ _ _)
      | (with_reducible exact pressure_Spans.mono _ _ _ _ _)
      | (with_reducible exact pressure_Worst.mono _ _ _ _ _)
      | (with_reducible exact LeO.refl _)
      | (with_reducible exact LeO.none _)
      | (with_reducible refine LeO.ite ?_ ?_)
      | (with_reducible refine LeO.bind ?_ (fun _ => ?_))
      | exact ih0 _
      | exact ih1 _
      | exact headgatelaw32_awake.mono _
      | exact headgatelaw32_level.mono _ _ _
      | exact headgatelaw32_misses.mono _ _ _ _
      | exact headgatelaw32_next.mono _ _ _ _
      | exact headgatelaw32_sameSpans.mono _ _ _
      | exact pressure_Check.mono _ _ _ _
      | exact pressure_Level.mono _ _ _ _ _
      | exact pressure_Spans.mono _ _ _ _ _
      | exact pressure_Worst.mono _ _ _ _ _
      | exact LeO.none _
      | refine LeO.ite ?_ ?_
      | refine LeO.bind ?_ (fun _ => ?_)
set_option maxHeartbeats 8000000 in
set_option maxRecDepth 100000 in
theorem headgatelaw32_PressureKnown.calls (k : Nat)  (r : Bool) (w : World) (h : headgatelaw32_PressureKnown.f k  = some r) :
    Calls Try.prog 8 #[] w fun e w' => e = .returned (.bool r) ∧ Below w.heap.size w w' := by
  have hu49 := Try.underlying49
  have hu23 := Try.underlying23
  have HB := Aside0.mk (Below.refl w.heap.size w)
  have H : ((headgatelaw32_marks.f).bind fun bt389 => ((pressure_Level.f k bt389.1 bt389.2.1 bt389.2.2 257).bind fun bt392 => ((headgatelaw32_level.f k 5 1).bind fun t394 => (if t394 = true then ((headgatelaw32_level.f k 2 3).bind fun t395 => (if t395 = true then ((headgatelaw32_level.f k 0 3).bind fun t396 => (if t396 = true then (if bt392.2 = 2 then ((headgatelaw32_next.f k false 5 false).bind fun t397 => (if t397 = true then ((headgatelaw32_next.f k false 4 true).bind fun t398 => (if t398 = true then ((headgatelaw32_next.f k true 9 false).bind fun t399 => (headgatelaw32_PressureKnown.j0 k (!t399))) else (headgatelaw32_PressureKnown.j0 k true))) else (headgatelaw32_PressureKnown.j0 k true))) else (headgatelaw32_PressureKnown.j0 k true)) else (headgatelaw32_PressureKnown.j0 k true))) else (headgatelaw32_PressureKnown.j0 k true))) else (headgatelaw32_PressureKnown.j0 k true))))) = some r := h
  clear h
  replace H := Option.bind_eq_some_iff.mp H
  obtain ⟨⟨t389, t390, t391⟩, A10, H⟩ := H
  replace H : ((pressure_Level.f k t389 t390 t391 257).bind fun bt392 => ((headgatelaw32_level.f k 5 1).bind fun t394 => (if t394 = true then ((headgatelaw32_level.f k 2 3).bind fun t395 => (if t395 = true then ((headgatelaw32_level.f k 0 3).bind fun t396 => (if t396 = true then (if bt392.2 = 2 then ((headgatelaw32_next.f k false 5 false).bind fun t397 => (if t397 = true then ((headgatelaw32_next.f k false 4 true).bind fun t398 => (if t398 = true then ((headgatelaw32_next.f k true 9 false).bind fun t399 => (headgatelaw32_PressureKnown.j0 k (!t399))) else (headgatelaw32_PressureKnown.j0 k true))) else (headgatelaw32_PressureKnown.j0 k true))) else (headgatelaw32_PressureKnown.j0 k true)) else (headgatelaw32_PressureKnown.j0 k true))) else (headgatelaw32_PressureKnown.j0 k true))) else (headgatelaw32_PressureKnown.j0 k true)))) = some r := H
  have A1 := Aside0.mk A10
  clear A10
  replace H := Option.bind_eq_some_iff.mp H
  obtain ⟨⟨t392, t393⟩, A20, H⟩ := H
  replace H : ((headgatelaw32_level.f k 5 1).bind fun t394 => (if t394 = true then ((headgatelaw32_level.f k 2 3).bind fun t395 => (if t395 = true then ((headgatelaw32_level.f k 0 3).bind fun t396 => (if t396 = true then (if t393 = 2 then ((headgatelaw32_next.f k false 5 false).bind fun t397 => (if t397 = true then ((headgatelaw32_next.f k false 4 true).bind fun t398 => (if t398 = true then ((headgatelaw32_next.f k true 9 false).bind fun t399 => (headgatelaw32_PressureKnown.j0 k (!t399))) else (headgatelaw32_PressureKnown.j0 k true))) else (headgatelaw32_PressureKnown.j0 k true))) else (headgatelaw32_PressureKnown.j0 k true)) else (headgatelaw32_PressureKnown.j0 k true))) else (headgatelaw32_PressureKnown.j0 k true))) else (headgatelaw32_PressureKnown.j0 k true))) = some r := H
  have A2 := Aside0.mk A20
  clear A20
  have HC3 := Aside0.mk H
  clear H
  go_enter Try.func8, Try.ntmps8
  go_upto_region 2 with (first | ((with_reducible refine gate_callee (f := 31) rfl ?_); refine goesL_ (some 11) rfl rfl Try.func31 (by kernel_rfl) rfl #[] rfl (by (try simp only [List.map_toArray, List.map_cons, List.map_nil]); first | done | rfl | (simp only [List.length_drop, List.length_take]; rfl)) ?_; (with_reducible refine (headgatelaw32_marks.calls  t389 t390 t391 _ A1.out).mono ?_); rintro e w4 ⟨rfl, hb⟩; refine ⟨_, rfl, ?_⟩; have n0_ := Aside0.mk (below_step (by repeat (first | (with_reducible first | exact HB.out | apply below_alloc | apply pw_below_drewN | apply below_drew1) | exact HB.out)) hb); clear HB; have HB := n0_; clear n0_; (try clear hb); (try clear hb2); (try clear hk); (try clear hi)) | ((with_reducible refine gate_callee (f := 9) rfl ?_); refine goesL_ (some 12) rfl rfl Try.func9 (by kernel_rfl) rfl #[.agg #[.int .i64 t389, .int .i64 t390, .int .i64 t391], .int .i64 257] rfl (by (try simp only [List.map_toArray, List.map_cons, List.map_nil]); first | done | rfl | (simp only [List.length_drop, List.length_take]; rfl)) ?_; (with_reducible refine (pressure_Level.calls k t389 t390 t391 257 t392 t393 _ A2.out).mono ?_); rintro e w5 ⟨rfl, hb⟩; refine ⟨_, rfl, ?_⟩; have n0_ := Aside0.mk (below_step (by repeat (first | (with_reducible first | exact HB.out | apply below_alloc | apply pw_below_drewN | apply below_drew1) | exact HB.out)) hb); clear HB; have HB := n0_; clear n0_; (try clear hb); (try clear hb2); (try clear hk); (try clear hi)))
  (try simp only [Act.put, List.setIfInBounds_toArray, List.set_cons_zero, List.set_cons_succ])
  go_cut [40] (fun v40 wc => ∃ (kq : Nat) (x40_2 : Bool), v40 = .bool x40_2 ∧ Aside0 (headgatelaw32_PressureKnown.j0 kq x40_2 = some r) ∧ Aside0 (kq ≤ k) ∧ Aside0 (Below w.heap.size w wc))
  case first =>
    have H := HC3.out
    clear HC3
    replace H := Option.bind_eq_some_iff.mp H
    obtain ⟨t394, A60, H⟩ := H
    replace H : (if t394 = true then ((headgatelaw32_level.f k 2 3).bind fun t395 => (if t395 = true then ((headgatelaw32_level.f k 0 3).bind fun t396 => (if t396 = true then (if t393 = 2 then ((headgatelaw32_next.f k false 5 false).bind fun t397 => (if t397 = true then ((headgatelaw32_next.f k false 4 true).bind fun t398 => (if t398 = true then ((headgatelaw32_next.f k true 9 false).bind fun t399 => (headgatelaw32_PressureKnown.j0 k (!t399))) else (headgatelaw32_PressureKnown.j0 k true))) else (headgatelaw32_PressureKnown.j0 k true))) else (headgatelaw32_PressureKnown.j0 k true)) else (headgatelaw32_PressureKnown.j0 k true))) else (headgatelaw32_PressureKnown.j0 k true))) else (headgatelaw32_PressureKnown.j0 k true)) = some r := H
    have A6 := Aside0.mk A60
    clear A60
    by_cases c7 : t394 = true
    · subst c7
      have H1 : ((headgatelaw32_level.f k 2 3).bind fun t395 => (if t395 = true then ((headgatelaw32_level.f k 0 3).bind fun t396 => (if t396 = true then (if t393 = 2 then ((headgatelaw32_next.f k false 5 false).bind fun t397 => (if t397 = true then ((headgatelaw32_next.f k false 4 true).bind fun t398 => (if t398 = true then ((headgatelaw32_next.f k true 9 false).bind fun t399 => (headgatelaw32_PressureKnown.j0 k (!t399))) else (headgatelaw32_PressureKnown.j0 k true))) else (headgatelaw32_PressureKnown.j0 k true))) else (headgatelaw32_PressureKnown.j0 k true)) else (headgatelaw32_PressureKnown.j0 k true))) else (headgatelaw32_PressureKnown.j0 k true))) = some r := by rw [if_pos rfl] at H; exact H
      clear H
      have H := H1
      clear H1
      replace H := Option.bind_eq_some_iff.mp H
      obtain ⟨t395, A80, H⟩ := H
      replace H : (if t395 = true then ((headgatelaw32_level.f k 0 3).bind fun t396 => (if t396 = true then (if t393 = 2 then ((headgatelaw32_next.f k false 5 false).bind fun t397 => (if t397 = true then ((headgatelaw32_next.f k false 4 true).bind fun t398 => (if t398 = true then ((headgatelaw32_next.f k true 9 false).bind fun t399 => (headgatelaw32_PressureKnown.j0 k (!t399))) else (headgatelaw32_PressureKnown.j0 k true))) else (headgatelaw32_PressureKnown.j0 k true))) else (headgatelaw32_PressureKnown.j0 k true)) else (headgatelaw32_PressureKnown.j0 k true))) else (headgatelaw32_PressureKnown.j0 k true)) = some r := H
      have A8 := Aside0.mk A80
      clear A80
      by_cases c9 : t395 = true
      · subst c9
        have H1 : ((headgatelaw32_level.f k 0 3).bind fun t396 => (if t396 = true then (if t393 = 2 then ((headgatelaw32_next.f k false 5 false).bind fun t397 => (if t397 = true then ((headgatelaw32_next.f k false 4 true).bind fun t398 => (if t398 = true then ((headgatelaw32_next.f k true 9 false).bind fun t399 => (headgatelaw32_PressureKnown.j0 k (!t399))) else (headgatelaw32_PressureKnown.j0 k true))) else (headgatelaw32_PressureKnown.j0 k true))) else (headgatelaw32_PressureKnown.j0 k true)) else (headgatelaw32_PressureKnown.j0 k true))) = some r := by rw [if_pos rfl] at H; exact H
        clear H
        have H := H1
        clear H1
        replace H := Option.bind_eq_some_iff.mp H
        obtain ⟨t396, A100, H⟩ := H
        replace H : (if t396 = true then (if t393 = 2 then ((headgatelaw32_next.f k false 5 false).bind fun t397 => (if t397 = true then ((headgatelaw32_next.f k false 4 true).bind fun t398 => (if t398 = true then ((headgatelaw32_next.f k true 9 false).bind fun t399 => (headgatelaw32_PressureKnown.j0 k (!t399))) else (headgatelaw32_PressureKnown.j0 k true))) else (headgatelaw32_PressureKnown.j0 k true))) else (headgatelaw32_PressureKnown.j0 k true)) else (headgatelaw32_PressureKnown.j0 k true)) = some r := H
        have A10 := Aside0.mk A100
        clear A100
        by_cases c11 : t396 = true
        · subst c11
          have H1 : (if t393 = 2 then ((headgatelaw32_next.f k false 5 false).bind fun t397 => (if t397 = true then ((headgatelaw32_next.f k false 4 true).bind fun t398 => (if t398 = true then ((headgatelaw32_next.f k true 9 false).bind fun t399 => (headgatelaw32_PressureKnown.j0 k (!t399))) else (headgatelaw32_PressureKnown.j0 k true))) else (headgatelaw32_PressureKnown.j0 k true))) else (headgatelaw32_PressureKnown.j0 k true)) = some r := by rw [if_pos rfl] at H; exact H
          clear H
          have H := H1
          clear H1
          by_cases c12 : t393 = 2
          · rw [if_pos c12] at H
            have c12b0 : (t393 == 2) = true := beq_iff_eq.mpr c12
            have c12b1 : (t393 != 2) = false := bne_eq_false_iff_eq.mpr c12
            clear c12
            (first | rw [c12b0] | (simp only [i64_w, i32_w]; rw [c12b0]) | skip)
            replace H := Option.bind_eq_some_iff.mp H
            obtain ⟨t397, A130, H⟩ := H
            replace H : (if t397 = true then ((headgatelaw32_next.f k false 4 true).bind fun t398 => (if t398 = true then ((headgatelaw32_next.f k true 9 false).bind fun t399 => (headgatelaw32_PressureKnown.j0 k (!t399))) else (headgatelaw32_PressureKnown.j0 k true))) else (headgatelaw32_PressureKnown.j0 k true)) = some r := H
            have A13 := Aside0.mk A130
            clear A130
            by_cases c14 : t397 = true
            · subst c14
              have H1 : ((headgatelaw32_next.f k false 4 true).bind fun t398 => (if t398 = true then ((headgatelaw32_next.f k true 9 false).bind fun t399 => (headgatelaw32_PressureKnown.j0 k (!t399))) else (headgatelaw32_PressureKnown.j0 k true))) = some r := by rw [if_pos rfl] at H; exact H
              clear H
              have H := H1
              clear H1
              replace H := Option.bind_eq_some_iff.mp H
              obtain ⟨t398, A150, H⟩ := H
              replace H : (if t398 = true then ((headgatelaw32_next.f k true 9 false).bind fun t399 => (headgatelaw32_PressureKnown.j0 k (!t399))) else (headgatelaw32_PressureKnown.j0 k true)) = some r := H
              have A15 := Aside0.mk A150
              clear A150
              by_cases c16 : t398 = true
              · subst c16
                have H1 : ((headgatelaw32_next.f k true 9 false).bind fun t399 => (headgatelaw32_PressureKnown.j0 k (!t399))) = some r := by rw [if_pos rfl] at H; exact H
                clear H
                have H := H1
                clear H1
                replace H := Option.bind_eq_some_iff.mp H
                obtain ⟨t399, A170, H⟩ := H
                replace H : (headgatelaw32_PressureKnown.j0 k (!t399)) = some r := H
                have A17 := Aside0.mk A170
                clear A170
                have H' := Aside0.mk H
                clear H
                go_wp2_with (first | ((with_reducible refine gate_callee (f := 32) rfl ?_); refine goesL_ (some 15) rfl rfl Try.func32 (by kernel_rfl) rfl #[.int .i64 5, .int .i64 1] rfl (by (try simp only [List.map_toArray, List.map_cons, List.map_nil]); first | done | rfl | (simp only [List.length_drop, List.length_take]; rfl)) ?_; (with_reducible refine (headgatelaw32_level.calls k 5 1 true _ A6.out).mono ?_); rintro e w18 ⟨rfl, hb⟩; refine ⟨_, rfl, ?_⟩; have n0_ := Aside0.mk (below_step (by repeat (first | (with_reducible first | exact HB.out | apply below_alloc | apply pw_below_drewN | apply below_drew1) | exact HB.out)) hb); clear HB; have HB := n0_; clear n0_; (try clear hb); (try clear hb2); (try clear hk); (try clear hi)) | (go_at_call 32; (with_reducible refine (headgatelaw32_level.calls k 2 3 true _ A8.out).mono ?_); rintro e w19 ⟨rfl, hb⟩; have n0_ := Aside0.mk (below_step (by repeat (first | (with_reducible first | exact HB.out | apply below_alloc | apply pw_below_drewN | apply below_drew1) | exact HB.out)) hb); clear HB; have HB := n0_; clear n0_; (try clear hb); (try clear hb2); (try clear hk); (try clear hi)) | (go_at_call 32; (with_reducible refine (headgatelaw32_level.calls k 0 3 true _ A10.out).mono ?_); rintro e w20 ⟨rfl, hb⟩; have n0_ := Aside0.mk (below_step (by repeat (first | (with_reducible first | exact HB.out | apply below_alloc | apply pw_below_drewN | apply below_drew1) | exact HB.out)) hb); clear HB; have HB := n0_; clear n0_; (try clear hb); (try clear hb2); (try clear hk); (try clear hi)) | (go_at_call 33; (with_reducible refine (headgatelaw32_next.calls k false 5 false true _ A13.out).mono ?_); rintro e w21 ⟨rfl, hb⟩; have n0_ := Aside0.mk (below_step (by repeat (first | (with_reducible first | exact HB.out | apply below_alloc | apply pw_below_drewN | apply below_drew1) | exact HB.out)) hb); clear HB; have HB := n0_; clear n0_; (try clear hb); (try clear hb2); (try clear hk); (try clear hi)) | (go_at_call 33; (with_reducible refine (headgatelaw32_next.calls k false 4 true true _ A15.out).mono ?_); rintro e w22 ⟨rfl, hb⟩; have n0_ := Aside0.mk (below_step (by repeat (first | (with_reducible first | exact HB.out | apply below_alloc | apply pw_below_drewN | apply below_drew1) | exact HB.out)) hb); clear HB; have HB := n0_; clear n0_; (try clear hb); (try clear hb2); (try clear hk); (try clear hi)) | (go_at_call 33; (with_reducible refine (headgatelaw32_next.calls k true 9 false t399 _ A17.out).mono ?_); rintro e w23 ⟨rfl, hb⟩; have n0_ := Aside0.mk (below_step (by repeat (first | (with_reducible first | exact HB.out | apply below_alloc | apply pw_below_drewN | apply below_drew1) | exact HB.out)) hb); clear HB; have HB := n0_; clear n0_; (try clear hb); (try clear hb2); (try clear hk); (try clear hi)))
                go_meet
                case rel => exact ⟨_, (!t399), (by first | rfl | (simp; done) | (simp [*]; done)), H', ⟨by first | omega | exact Nat.le_refl _⟩, ⟨by repeat (first | (with_reducible first | exact HB.out | apply below_alloc | apply pw_below_drewN | apply below_drew1) | exact HB.out)⟩⟩
              · replace c16 := Bool.eq_false_iff.mpr c16
                subst c16
                have H1 : (headgatelaw32_PressureKnown.j0 k true) = some r := by rw [if_neg (show ¬ (false = true) by decide)] at H; exact H
                clear H
                have H := H1
                clear H1
                have H' := Aside0.mk H
                clear H
                go_wp2_with (first | ((with_reducible refine gate_callee (f := 32) rfl ?_); refine goesL_ (some 15) rfl rfl Try.func32 (by kernel_rfl) rfl #[.int .i64 5, .int .i64 1] rfl (by (try simp only [List.map_toArray, List.map_cons, List.map_nil]); first | done | rfl | (simp only [List.length_drop, List.length_take]; rfl)) ?_; (with_reducible refine (headgatelaw32_level.calls k 5 1 true _ A6.out).mono ?_); rintro e w24 ⟨rfl, hb⟩; refine ⟨_, rfl, ?_⟩; have n0_ := Aside0.mk (below_step (by repeat (first | (with_reducible first | exact HB.out | apply below_alloc | apply pw_below_drewN | apply below_drew1) | exact HB.out)) hb); clear HB; have HB := n0_; clear n0_; (try clear hb); (try clear hb2); (try clear hk); (try clear hi)) | (go_at_call 32; (with_reducible refine (headgatelaw32_level.calls k 2 3 true _ A8.out).mono ?_); rintro e w25 ⟨rfl, hb⟩; have n0_ := Aside0.mk (below_step (by repeat (first | (with_reducible first | exact HB.out | apply below_alloc | apply pw_below_drewN | apply below_drew1) | exact HB.out)) hb); clear HB; have HB := n0_; clear n0_; (try clear hb); (try clear hb2); (try clear hk); (try clear hi)) | (go_at_call 32; (with_reducible refine (headgatelaw32_level.calls k 0 3 true _ A10.out).mono ?_); rintro e w26 ⟨rfl, hb⟩; have n0_ := Aside0.mk (below_step (by repeat (first | (with_reducible first | exact HB.out | apply below_alloc | apply pw_below_drewN | apply below_drew1) | exact HB.out)) hb); clear HB; have HB := n0_; clear n0_; (try clear hb); (try clear hb2); (try clear hk); (try clear hi)) | (go_at_call 33; (with_reducible refine (headgatelaw32_next.calls k false 5 false true _ A13.out).mono ?_); rintro e w27 ⟨rfl, hb⟩; have n0_ := Aside0.mk (below_step (by repeat (first | (with_reducible first | exact HB.out | apply below_alloc | apply pw_below_drewN | apply below_drew1) | exact HB.out)) hb); clear HB; have HB := n0_; clear n0_; (try clear hb); (try clear hb2); (try clear hk); (try clear hi)) | (go_at_call 33; (with_reducible refine (headgatelaw32_next.calls k false 4 true false _ A15.out).mono ?_); rintro e w28 ⟨rfl, hb⟩; have n0_ := Aside0.mk (below_step (by repeat (first | (with_reducible first | exact HB.out | apply below_alloc | apply pw_below_drewN | apply below_drew1) | exact HB.out)) hb); clear HB; have HB := n0_; clear n0_; (try clear hb); (try clear hb2); (try clear hk); (try clear hi)))
                go_meet
                case rel => exact ⟨_, (true), (by first | rfl | (simp; done) | (simp [*]; done)), H', ⟨by first | omega | exact Nat.le_refl _⟩, ⟨by repeat (first | (with_reducible first | exact HB.out | apply below_alloc | apply pw_below_drewN | apply below_drew1) | exact HB.out)⟩⟩
            · replace c14 := Bool.eq_false_iff.mpr c14
              subst c14
              have H1 : (headgatelaw32_PressureKnown.j0 k true) = some r := by rw [if_neg (show ¬ (false = true) by decide)] at H; exact H
              clear H
              have H := H1
              clear H1
              have H' := Aside0.mk H
              clear H
              go_wp2_with (first | ((with_reducible refine gate_callee (f := 32) rfl ?_); refine goesL_ (some 15) rfl rfl Try.func32 (by kernel_rfl) rfl #[.int .i64 5, .int .i64 1] rfl (by (try simp only [List.map_toArray, List.map_cons, List.map_nil]); first | done | rfl | (simp only [List.length_drop, List.length_take]; rfl)) ?_; (with_reducible refine (headgatelaw32_level.calls k 5 1 true _ A6.out).mono ?_); rintro e w29 ⟨rfl, hb⟩; refine ⟨_, rfl, ?_⟩; have n0_ := Aside0.mk (below_step (by repeat (first | (with_reducible first | exact HB.out | apply below_alloc | apply pw_below_drewN | apply below_drew1) | exact HB.out)) hb); clear HB; have HB := n0_; clear n0_; (try clear hb); (try clear hb2); (try clear hk); (try clear hi)) | (go_at_call 32; (with_reducible refine (headgatelaw32_level.calls k 2 3 true _ A8.out).mono ?_); rintro e w30 ⟨rfl, hb⟩; have n0_ := Aside0.mk (below_step (by repeat (first | (with_reducible first | exact HB.out | apply below_alloc | apply pw_below_drewN | apply below_drew1) | exact HB.out)) hb); clear HB; have HB := n0_; clear n0_; (try clear hb); (try clear hb2); (try clear hk); (try clear hi)) | (go_at_call 32; (with_reducible refine (headgatelaw32_level.calls k 0 3 true _ A10.out).mono ?_); rintro e w31 ⟨rfl, hb⟩; have n0_ := Aside0.mk (below_step (by repeat (first | (with_reducible first | exact HB.out | apply below_alloc | apply pw_below_drewN | apply below_drew1) | exact HB.out)) hb); clear HB; have HB := n0_; clear n0_; (try clear hb); (try clear hb2); (try clear hk); (try clear hi)) | (go_at_call 33; (with_reducible refine (headgatelaw32_next.calls k false 5 false false _ A13.out).mono ?_); rintro e w32 ⟨rfl, hb⟩; have n0_ := Aside0.mk (below_step (by repeat (first | (with_reducible first | exact HB.out | apply below_alloc | apply pw_below_drewN | apply below_drew1) | exact HB.out)) hb); clear HB; have HB := n0_; clear n0_; (try clear hb); (try clear hb2); (try clear hk); (try clear hi)))
              go_meet
              case rel => exact ⟨_, (true), (by first | rfl | (simp; done) | (simp [*]; done)), H', ⟨by first | omega | exact Nat.le_refl _⟩, ⟨by repeat (first | (with_reducible first | exact HB.out | apply below_alloc | apply pw_below_drewN | apply below_drew1) | exact HB.out)⟩⟩
          · rw [if_neg c12] at H
            have c12b0 : (t393 == 2) = false := beq_eq_false_iff_ne.mpr c12
            have c12b1 : (t393 != 2) = true := bne_iff_ne.mpr c12
            (first | rw [c12b0] | (simp only [i64_w, i32_w]; rw [c12b0]) | skip)
            have H' := Aside0.mk H
            clear H
            go_wp2_with (first | ((with_reducible refine gate_callee (f := 32) rfl ?_); refine goesL_ (some 15) rfl rfl Try.func32 (by kernel_rfl) rfl #[.int .i64 5, .int .i64 1] rfl (by (try simp only [List.map_toArray, List.map_cons, List.map_nil]); first | done | rfl | (simp only [List.length_drop, List.length_take]; rfl)) ?_; (with_reducible refine (headgatelaw32_level.calls k 5 1 true _ A6.out).mono ?_); rintro e w33 ⟨rfl, hb⟩; refine ⟨_, rfl, ?_⟩; have n0_ := Aside0.mk (below_step (by repeat (first | (with_reducible first | exact HB.out | apply below_alloc | apply pw_below_drewN | apply below_drew1) | exact HB.out)) hb); clear HB; have HB := n0_; clear n0_; (try clear hb); (try clear hb2); (try clear hk); (try clear hi)) | (go_at_call 32; (with_reducible refine (headgatelaw32_level.calls k 2 3 true _ A8.out).mono ?_); rintro e w34 ⟨rfl, hb⟩; have n0_ := Aside0.mk (below_step (by repeat (first | (with_reducible first | exact HB.out | apply below_alloc | apply pw_below_drewN | apply below_drew1) | exact HB.out)) hb); clear HB; have HB := n0_; clear n0_; (try clear hb); (try clear hb2); (try clear hk); (try clear hi)) | (go_at_call 32; (with_reducible refine (headgatelaw32_level.calls k 0 3 true _ A10.out).mono ?_); rintro e w35 ⟨rfl, hb⟩; have n0_ := Aside0.mk (below_step (by repeat (first | (with_reducible first | exact HB.out | apply below_alloc | apply pw_below_drewN | apply below_drew1) | exact HB.out)) hb); clear HB; have HB := n0_; clear n0_; (try clear hb); (try clear hb2); (try clear hk); (try clear hi)))
            go_meet
            case rel => exact ⟨_, (true), (by first | rfl | (simp; done) | (simp [*]; done)), H', ⟨by first | omega | exact Nat.le_refl _⟩, ⟨by repeat (first | (with_reducible first | exact HB.out | apply below_alloc | apply pw_below_drewN | apply below_drew1) | exact HB.out)⟩⟩
        · replace c11 := Bool.eq_false_iff.mpr c11
          subst c11
          have H1 : (headgatelaw32_PressureKnown.j0 k true) = some r := by rw [if_neg (show ¬ (false = true) by decide)] at H; exact H
          clear H
          have H := H1
          clear H1
          have H' := Aside0.mk H
          clear H
          go_wp2_with (first | ((with_reducible refine gate_callee (f := 32) rfl ?_); refine goesL_ (some 15) rfl rfl Try.func32 (by kernel_rfl) rfl #[.int .i64 5, .int .i64 1] rfl (by (try simp only [List.map_toArray, List.map_cons, List.map_nil]); first | done | rfl | (simp only [List.length_drop, List.length_take]; rfl)) ?_; (with_reducible refine (headgatelaw32_level.calls k 5 1 true _ A6.out).mono ?_); rintro e w36 ⟨rfl, hb⟩; refine ⟨_, rfl, ?_⟩; have n0_ := Aside0.mk (below_step (by repeat (first | (with_reducible first | exact HB.out | apply below_alloc | apply pw_below_drewN | apply below_drew1) | exact HB.out)) hb); clear HB; have HB := n0_; clear n0_; (try clear hb); (try clear hb2); (try clear hk); (try clear hi)) | (go_at_call 32; (with_reducible refine (headgatelaw32_level.calls k 2 3 true _ A8.out).mono ?_); rintro e w37 ⟨rfl, hb⟩; have n0_ := Aside0.mk (below_step (by repeat (first | (with_reducible first | exact HB.out | apply below_alloc | apply pw_below_drewN | apply below_drew1) | exact HB.out)) hb); clear HB; have HB := n0_; clear n0_; (try clear hb); (try clear hb2); (try clear hk); (try clear hi)) | (go_at_call 32; (with_reducible refine (headgatelaw32_level.calls k 0 3 false _ A10.out).mono ?_); rintro e w38 ⟨rfl, hb⟩; have n0_ := Aside0.mk (below_step (by repeat (first | (with_reducible first | exact HB.out | apply below_alloc | apply pw_below_drewN | apply below_drew1) | exact HB.out)) hb); clear HB; have HB := n0_; clear n0_; (try clear hb); (try clear hb2); (try clear hk); (try clear hi)))
          go_meet
          case rel => exact ⟨_, (true), (by first | rfl | (simp; done) | (simp [*]; done)), H', ⟨by first | omega | exact Nat.le_refl _⟩, ⟨by repeat (first | (with_reducible first | exact HB.out | apply below_alloc | apply pw_below_drewN | apply below_drew1) | exact HB.out)⟩⟩
      · replace c9 := Bool.eq_false_iff.mpr c9
        subst c9
        have H1 : (headgatelaw32_PressureKnown.j0 k true) = some r := by rw [if_neg (show ¬ (false = true) by decide)] at H; exact H
        clear H
        have H := H1
        clear H1
        have H' := Aside0.mk H
        clear H
        go_wp2_with (first | ((with_reducible refine gate_callee (f := 32) rfl ?_); refine goesL_ (some 15) rfl rfl Try.func32 (by kernel_rfl) rfl #[.int .i64 5, .int .i64 1] rfl (by (try simp only [List.map_toArray, List.map_cons, List.map_nil]); first | done | rfl | (simp only [List.length_drop, List.length_take]; rfl)) ?_; (with_reducible refine (headgatelaw32_level.calls k 5 1 true _ A6.out).mono ?_); rintro e w39 ⟨rfl, hb⟩; refine ⟨_, rfl, ?_⟩; have n0_ := Aside0.mk (below_step (by repeat (first | (with_reducible first | exact HB.out | apply below_alloc | apply pw_below_drewN | apply below_drew1) | exact HB.out)) hb); clear HB; have HB := n0_; clear n0_; (try clear hb); (try clear hb2); (try clear hk); (try clear hi)) | (go_at_call 32; (with_reducible refine (headgatelaw32_level.calls k 2 3 false _ A8.out).mono ?_); rintro e w40 ⟨rfl, hb⟩; have n0_ := Aside0.mk (below_step (by repeat (first | (with_reducible first | exact HB.out | apply below_alloc | apply pw_below_drewN | apply below_drew1) | exact HB.out)) hb); clear HB; have HB := n0_; clear n0_; (try clear hb); (try clear hb2); (try clear hk); (try clear hi)))
        go_meet
        case rel => exact ⟨_, (true), (by first | rfl | (simp; done) | (simp [*]; done)), H', ⟨by first | omega | exact Nat.le_refl _⟩, ⟨by repeat (first | (with_reducible first | exact HB.out | apply below_alloc | apply pw_below_drewN | apply below_drew1) | exact HB.out)⟩⟩
    · replace c7 := Bool.eq_false_iff.mpr c7
      subst c7
      have H1 : (headgatelaw32_PressureKnown.j0 k true) = some r := by rw [if_neg (show ¬ (false = true) by decide)] at H; exact H
      clear H
      have H := H1
      clear H1
      have H' := Aside0.mk H
      clear H
      go_wp2_with (first | ((with_reducible refine gate_callee (f := 32) rfl ?_); refine goesL_ (some 15) rfl rfl Try.func32 (by kernel_rfl) rfl #[.int .i64 5, .int .i64 1] rfl (by (try simp only [List.map_toArray, List.map_cons, List.map_nil]); first | done | rfl | (simp only [List.length_drop, List.length_take]; rfl)) ?_; (with_reducible refine (headgatelaw32_level.calls k 5 1 false _ A6.out).mono ?_); rintro e w41 ⟨rfl, hb⟩; refine ⟨_, rfl, ?_⟩; have n0_ := Aside0.mk (below_step (by repeat (first | (with_reducible first | exact HB.out | apply below_alloc | apply pw_below_drewN | apply below_drew1) | exact HB.out)) hb); clear HB; have HB := n0_; clear n0_; (try clear hb); (try clear hb2); (try clear hk); (try clear hi)))
      go_meet
      case rel => exact ⟨_, (true), (by first | rfl | (simp; done) | (simp [*]; done)), H', ⟨by first | omega | exact Nat.le_refl _⟩, ⟨by repeat (first | (with_reducible first | exact HB.out | apply below_alloc | apply pw_below_drewN | apply below_drew1) | exact HB.out)⟩⟩
  case rest =>
    clear HC3
    try clear c1
    try clear p2
    try clear c3
    try clear c7
    try clear c8
    try clear c9
    try clear c11
    try clear c12
    try clear c12b0
    try clear c12b1
    try clear c14
    try clear c16
    try clear c31
    try clear c32
    obtain ⟨kq, x40_2, rfl, HA, HJ2, HB⟩ := hcut
    cases kq with
    | zero => exact absurd HA.out (by simp [headgatelaw32_PressureKnown.j0])
    | succ kj2 =>
      have H := HA.out
      clear HA
      simp only [headgatelaw32_PressureKnown.j0] at H
      by_cases c42 : x40_2 = true
      · subst c42
        have H1 : (some false) = some r := by rw [if_pos rfl] at H; exact H
        clear H
        have H := H1
        clear H1
        obtain rfl := Option.some.inj H
        go_wp2
        go_ret
        exact ⟨by first | rfl | (simp [errW_none, errW_some] <;> rfl) | (simp [*, errW_none, errW_some] <;> rfl), by repeat (first | (with_reducible first | exact HB.out | apply below_alloc | apply pw_below_drewN | apply below_drew1) | exact HB.out)⟩
      · replace c42 := Bool.eq_false_iff.mpr c42
        subst c42
        have H1 : ((headgatelaw32_marks.f).bind fun bt400 => ((pressure_Spans.f kj2 bt400.1 bt400.2.1 bt400.2.2 (([9, 4, 6, 8, 9, 8, 4] : List Int))).bind fun bt406 => ((headgatelaw32_marks.f).bind fun bt410 => ((pressure_Worst.f kj2 bt410.1 bt410.2.1 bt410.2.2 (([9, 4, 2, 0] : List Int))).bind fun bt416 => ((headgatelaw32_marks.f).bind fun bt419 => ((pressure_Worst.f kj2 bt419.1 bt419.2.1 bt419.2.2 ([] : List Int)).bind fun bt422 => (if bt406.2 = 0 then (if bt416.2.2 = 0 then (if bt422.2.2 = 0 then ((headgatelaw32_sameSpans.f kj2 bt406.1 (([(⟨1, 3⟩ : S49), (⟨6, 6⟩ : S49)] : List (S49)))).bind fun t428 => (if t428 = true then (if bt416.1 = 3 then (if bt416.2.1 = 2 then (if bt422.1 = 0 then (headgatelaw32_PressureKnown.j1 kj2 (bt422.2.1 != (-1))) else (headgatelaw32_PressureKnown.j1 kj2 true)) else (headgatelaw32_PressureKnown.j1 kj2 true)) else (headgatelaw32_PressureKnown.j1 kj2 true)) else (headgatelaw32_PressureKnown.j1 kj2 true))) else (headgatelaw32_PressureKnown.j1 kj2 true)) else (headgatelaw32_PressureKnown.j1 kj2 true)) else (headgatelaw32_PressureKnown.j1 kj2 true)))))))) = some r := by rw [if_neg (show ¬ (false = true) by decide)] at H; exact H
        clear H
        have H := H1
        clear H1
        replace H := Option.bind_eq_some_iff.mp H
        obtain ⟨⟨t400, t401, t402⟩, A430, H⟩ := H
        replace H : ((pressure_Spans.f kj2 t400 t401 t402 (([9, 4, 6, 8, 9, 8, 4] : List Int))).bind fun bt406 => ((headgatelaw32_marks.f).bind fun bt410 => ((pressure_Worst.f kj2 bt410.1 bt410.2.1 bt410.2.2 (([9, 4, 2, 0] : List Int))).bind fun bt416 => ((headgatelaw32_marks.f).bind fun bt419 => ((pressure_Worst.f kj2 bt419.1 bt419.2.1 bt419.2.2 ([] : List Int)).bind fun bt422 => (if bt406.2 = 0 then (if bt416.2.2 = 0 then (if bt422.2.2 = 0 then ((headgatelaw32_sameSpans.f kj2 bt406.1 (([(⟨1, 3⟩ : S49), (⟨6, 6⟩ : S49)] : List (S49)))).bind fun t428 => (if t428 = true then (if bt416.1 = 3 then (if bt416.2.1 = 2 then (if bt422.1 = 0 then (headgatelaw32_PressureKnown.j1 kj2 (bt422.2.1 != (-1))) else (headgatelaw32_PressureKnown.j1 kj2 true)) else (headgatelaw32_PressureKnown.j1 kj2 true)) else (headgatelaw32_PressureKnown.j1 kj2 true)) else (headgatelaw32_PressureKnown.j1 kj2 true))) else (headgatelaw32_PressureKnown.j1 kj2 true)) else (headgatelaw32_PressureKnown.j1 kj2 true)) else (headgatelaw32_PressureKnown.j1 kj2 true))))))) = some r := H
        have A43 := Aside0.mk A430
        clear A430
        obtain ⟨y403, hy403⟩ : ∃ y_ : List Int, y_ = (([9, 4, 6, 8, 9, 8, 4] : List Int)) := ⟨_, rfl⟩
        replace H : ((pressure_Spans.f kj2 t400 t401 t402 y403).bind fun bt406 => ((headgatelaw32_marks.f).bind fun bt410 => ((pressure_Worst.f kj2 bt410.1 bt410.2.1 bt410.2.2 (([9, 4, 2, 0] : List Int))).bind fun bt416 => ((headgatelaw32_marks.f).bind fun bt419 => ((pressure_Worst.f kj2 bt419.1 bt419.2.1 bt419.2.2 ([] : List Int)).bind fun bt422 => (if bt406.2 = 0 then (if bt416.2.2 = 0 then (if bt422.2.2 = 0 then ((headgatelaw32_sameSpans.f kj2 bt406.1 (([(⟨1, 3⟩ : S49), (⟨6, 6⟩ : S49)] : List (S49)))).bind fun t428 => (if t428 = true then (if bt416.1 = 3 then (if bt416.2.1 = 2 then (if bt422.1 = 0 then (headgatelaw32_PressureKnown.j1 kj2 (bt422.2.1 != (-1))) else (headgatelaw32_PressureKnown.j1 kj2 true)) else (headgatelaw32_PressureKnown.j1 kj2 true)) else (headgatelaw32_PressureKnown.j1 kj2 true)) else (headgatelaw32_PressureKnown.j1 kj2 true))) else (headgatelaw32_PressureKnown.j1 kj2 true)) else (headgatelaw32_PressureKnown.j1 kj2 true)) else (headgatelaw32_PressureKnown.j1 kj2 true))))))) = some r := by first | (rw [hy403]; with_reducible exact H) | (have H2_ := (Option.bind_some _ _).symm.trans H; rw [hy403]; with_reducible exact H2_) | (have H2_ := (Option.bind_some _ _).symm.trans H; with_reducible exact H2_) | with_reducible exact H | (rw [hy403]; exact H) | exact H
        have Ny403 := Aside0.mk hy403
        clear hy403
        replace H := Option.bind_eq_some_iff.mp H
        obtain ⟨⟨t406, t409⟩, A440, H⟩ := H
        replace H : ((headgatelaw32_marks.f).bind fun bt410 => ((pressure_Worst.f kj2 bt410.1 bt410.2.1 bt410.2.2 (([9, 4, 2, 0] : List Int))).bind fun bt416 => ((headgatelaw32_marks.f).bind fun bt419 => ((pressure_Worst.f kj2 bt419.1 bt419.2.1 bt419.2.2 ([] : List Int)).bind fun bt422 => (if t409 = 0 then (if bt416.2.2 = 0 then (if bt422.2.2 = 0 then ((headgatelaw32_sameSpans.f kj2 t406 (([(⟨1, 3⟩ : S49), (⟨6, 6⟩ : S49)] : List (S49)))).bind fun t428 => (if t428 = true then (if bt416.1 = 3 then (if bt416.2.1 = 2 then (if bt422.1 = 0 then (headgatelaw32_PressureKnown.j1 kj2 (bt422.2.1 != (-1))) else (headgatelaw32_PressureKnown.j1 kj2 true)) else (headgatelaw32_PressureKnown.j1 kj2 true)) else (headgatelaw32_PressureKnown.j1 kj2 true)) else (headgatelaw32_PressureKnown.j1 kj2 true))) else (headgatelaw32_PressureKnown.j1 kj2 true)) else (headgatelaw32_PressureKnown.j1 kj2 true)) else (headgatelaw32_PressureKnown.j1 kj2 true)))))) = some r := H
        have A44 := Aside0.mk A440
        clear A440
        replace H := Option.bind_eq_some_iff.mp H
        obtain ⟨⟨t410, t411, t412⟩, A450, H⟩ := H
        replace H : ((pressure_Worst.f kj2 t410 t411 t412 (([9, 4, 2, 0] : List Int))).bind fun bt416 => ((headgatelaw32_marks.f).bind fun bt419 => ((pressure_Worst.f kj2 bt419.1 bt419.2.1 bt419.2.2 ([] : List Int)).bind fun bt422 => (if t409 = 0 then (if bt416.2.2 = 0 then (if bt422.2.2 = 0 then ((headgatelaw32_sameSpans.f kj2 t406 (([(⟨1, 3⟩ : S49), (⟨6, 6⟩ : S49)] : List (S49)))).bind fun t428 => (if t428 = true then (if bt416.1 = 3 then (if bt416.2.1 = 2 then (if bt422.1 = 0 then (headgatelaw32_PressureKnown.j1 kj2 (bt422.2.1 != (-1))) else (headgatelaw32_PressureKnown.j1 kj2 true)) else (headgatelaw32_PressureKnown.j1 kj2 true)) else (headgatelaw32_PressureKnown.j1 kj2 true)) else (headgatelaw32_PressureKnown.j1 kj2 true))) else (headgatelaw32_PressureKnown.j1 kj2 true)) else (headgatelaw32_PressureKnown.j1 kj2 true)) else (headgatelaw32_PressureKnown.j1 kj2 true))))) = some r := H
        have A45 := Aside0.mk A450
        clear A450
        obtain ⟨y413, hy413⟩ : ∃ y_ : List Int, y_ = (([9, 4, 2, 0] : List Int)) := ⟨_, rfl⟩
        replace H : ((pressure_Worst.f kj2 t410 t411 t412 y413).bind fun bt416 => ((headgatelaw32_marks.f).bind fun bt419 => ((pressure_Worst.f kj2 bt419.1 bt419.2.1 bt419.2.2 ([] : List Int)).bind fun bt422 => (if t409 = 0 then (if bt416.2.2 = 0 then (if bt422.2.2 = 0 then ((headgatelaw32_sameSpans.f kj2 t406 (([(⟨1, 3⟩ : S49), (⟨6, 6⟩ : S49)] : List (S49)))).bind fun t428 => (if t428 = true then (if bt416.1 = 3 then (if bt416.2.1 = 2 then (if bt422.1 = 0 then (headgatelaw32_PressureKnown.j1 kj2 (bt422.2.1 != (-1))) else (headgatelaw32_PressureKnown.j1 kj2 true)) else (headgatelaw32_PressureKnown.j1 kj2 true)) else (headgatelaw32_PressureKnown.j1 kj2 true)) else (headgatelaw32_PressureKnown.j1 kj2 true))) else (headgatelaw32_PressureKnown.j1 kj2 true)) else (headgatelaw32_PressureKnown.j1 kj2 true)) else (headgatelaw32_PressureKnown.j1 kj2 true))))) = some r := by first | (rw [hy413]; with_reducible exact H) | (have H2_ := (Option.bind_some _ _).symm.trans H; rw [hy413]; with_reducible exact H2_) | (have H2_ := (Option.bind_some _ _).symm.trans H; with_reducible exact H2_) | with_reducible exact H | (rw [hy413]; exact H) | exact H
        have Ny413 := Aside0.mk hy413
        clear hy413
        replace H := Option.bind_eq_some_iff.mp H
        obtain ⟨⟨t416, t417, t418⟩, A460, H⟩ := H
        replace H : ((headgatelaw32_marks.f).bind fun bt419 => ((pressure_Worst.f kj2 bt419.1 bt419.2.1 bt419.2.2 ([] : List Int)).bind fun bt422 => (if t409 = 0 then (if t418 = 0 then (if bt422.2.2 = 0 then ((headgatelaw32_sameSpans.f kj2 t406 (([(⟨1, 3⟩ : S49), (⟨6, 6⟩ : S49)] : List (S49)))).bind fun t428 => (if t428 = true then (if t416 = 3 then (if t417 = 2 then (if bt422.1 = 0 then (headgatelaw32_PressureKnown.j1 kj2 (bt422.2.1 != (-1))) else (headgatelaw32_PressureKnown.j1 kj2 true)) else (headgatelaw32_PressureKnown.j1 kj2 true)) else (headgatelaw32_PressureKnown.j1 kj2 true)) else (headgatelaw32_PressureKnown.j1 kj2 true))) else (headgatelaw32_PressureKnown.j1 kj2 true)) else (headgatelaw32_PressureKnown.j1 kj2 true)) else (headgatelaw32_PressureKnown.j1 kj2 true)))) = some r := H
        have A46 := Aside0.mk A460
        clear A460
        replace H := Option.bind_eq_some_iff.mp H
        obtain ⟨⟨t419, t420, t421⟩, A470, H⟩ := H
        replace H : ((pressure_Worst.f kj2 t419 t420 t421 ([] : List Int)).bind fun bt422 => (if t409 = 0 then (if t418 = 0 then (if bt422.2.2 = 0 then ((headgatelaw32_sameSpans.f kj2 t406 (([(⟨1, 3⟩ : S49), (⟨6, 6⟩ : S49)] : List (S49)))).bind fun t428 => (if t428 = true then (if t416 = 3 then (if t417 = 2 then (if bt422.1 = 0 then (headgatelaw32_PressureKnown.j1 kj2 (bt422.2.1 != (-1))) else (headgatelaw32_PressureKnown.j1 kj2 true)) else (headgatelaw32_PressureKnown.j1 kj2 true)) else (headgatelaw32_PressureKnown.j1 kj2 true)) else (headgatelaw32_PressureKnown.j1 kj2 true))) else (headgatelaw32_PressureKnown.j1 kj2 true)) else (headgatelaw32_PressureKnown.j1 kj2 true)) else (headgatelaw32_PressureKnown.j1 kj2 true))) = some r := H
        have A47 := Aside0.mk A470
        clear A470
        replace H := Option.bind_eq_some_iff.mp H
        obtain ⟨⟨t422, t423, t424⟩, A480, H⟩ := H
        replace H : (if t409 = 0 then (if t418 = 0 then (if t424 = 0 then ((headgatelaw32_sameSpans.f kj2 t406 (([(⟨1, 3⟩ : S49), (⟨6, 6⟩ : S49)] : List (S49)))).bind fun t428 => (if t428 = true then (if t416 = 3 then (if t417 = 2 then (if t422 = 0 then (headgatelaw32_PressureKnown.j1 kj2 (t423 != (-1))) else (headgatelaw32_PressureKnown.j1 kj2 true)) else (headgatelaw32_PressureKnown.j1 kj2 true)) else (headgatelaw32_PressureKnown.j1 kj2 true)) else (headgatelaw32_PressureKnown.j1 kj2 true))) else (headgatelaw32_PressureKnown.j1 kj2 true)) else (headgatelaw32_PressureKnown.j1 kj2 true)) else (headgatelaw32_PressureKnown.j1 kj2 true)) = some r := H
        have A48 := Aside0.mk A480
        clear A480
        have HC49 := Aside0.mk H
        clear H
        go_upto_region 7 with (first | ((with_reducible refine gate_callee (f := 31) rfl ?_); refine goesL_ (some 42) rfl rfl Try.func31 (by kernel_rfl) rfl #[] rfl (by (try simp only [List.map_toArray, List.map_cons, List.map_nil]); first | done | rfl | (simp only [List.length_drop, List.length_take]; rfl)) ?_; (with_reducible refine (headgatelaw32_marks.calls  t400 t401 t402 _ A43.out).mono ?_); rintro e w50 ⟨rfl, hb⟩; refine ⟨_, rfl, ?_⟩; have n0_ := Aside0.mk (below_step (by repeat (first | (with_reducible first | exact HB.out | apply below_alloc | apply pw_below_drewN | apply below_drew1) | exact HB.out)) hb); clear HB; have HB := n0_; clear n0_; (try clear hb); (try clear hb2); (try clear hk); (try clear hi)) | ((with_reducible refine gate_dst (N := 43) rfl ?_); (try (refine gate_guard (by rfl) ?_; dsimp only)); refine Kd.R_lit (Kd.int .i64) _ 3 ?hg (N := 43) ?hd (xs := ([9, 4, 6, 8, 9, 8, 4] : List Int)) (inner := [.int .i64 9, .int .i64 4, .int .i64 6, .int .i64 8, .int .i64 9, .int .i64 8, .int .i64 4]) (ok := fun _ => True) (okp := fun _ => True) ?hr ?hp (fun _ hk => hk) trivial (Below.refl _ _) (Nat.le_refl _) (by simp) ?_; (case hd => rfl); (case hg => rfl); (case hr => first | (go_simp; done) | (go_simp; rfl)); (case hp => exact (Reps.one (show Kd.M (Kd.int .i64) _ _ _ 9 [.int .i64 9] from rfl) (Reps.one (show Kd.M (Kd.int .i64) _ _ _ 4 [.int .i64 4] from rfl) (Reps.one (show Kd.M (Kd.int .i64) _ _ _ 6 [.int .i64 6] from rfl) (Reps.one (show Kd.M (Kd.int .i64) _ _ _ 8 [.int .i64 8] from rfl) (Reps.one (show Kd.M (Kd.int .i64) _ _ _ 9 [.int .i64 9] from rfl) (Reps.one (show Kd.M (Kd.int .i64) _ _ _ 8 [.int .i64 8] from rfl) (Reps.one (show Kd.M (Kd.int .i64) _ _ _ 4 [.int .i64 4] from rfl) (Reps.none _ _))))))))); intro v404 w51 ho52 hb hg_ hnew_; clear hg_ hnew_; (first | rw [← Ny403.out] at ho52 | (simp only [Int.reduceToNat] at ho52; rw [← Ny403.out] at ho52)); have n0_ := Aside0.mk (Kd.R_lower ho52 (below_size (by repeat (first | (with_reducible first | exact HB.out | apply below_alloc | apply pw_below_drewN | apply below_drew1) | exact HB.out)))); have n1_ := Aside0.mk (below_step (by repeat (first | (with_reducible first | exact HB.out | apply below_alloc | apply pw_below_drewN | apply below_drew1) | exact HB.out)) hb); clear HB; have HO405 := n0_; have HB := n1_; clear n0_ n1_; clear hb ho52; obtain ⟨Ao53, co53, eo53⟩ := Kd.R_slice HO405.out; subst eo53) | ((with_reducible refine gate_callee (f := 24) rfl ?_); refine goesL_ (some 44) rfl rfl Try.func24 (by kernel_rfl) rfl #[.agg #[.int .i64 t400, .int .i64 t401, .int .i64 t402], .slice Ao53 y403.length co53] rfl (by (try simp only [List.map_toArray, List.map_cons, List.map_nil]); first | done | rfl | (simp only [List.length_drop, List.length_take]; rfl)) ?_; (with_reducible refine (pressure_Spans.calls kj2 t400 t401 t402 _ _ y403 t406 t409 _ ?side1 ?side2 A44.out).mono ?_); (case side1 => repeat (first | exact (Kd.R_reads' HO405.out).2.2 | (with_reducible refine Kd.C_alloc ?_ _) | (with_reducible refine Kd.C_drewN ?_ _) | (with_reducible refine Kd.C_drew ?_))); (case side2 => exact (Kd.R_reads' HO405.out).2.1); rintro e w54 ⟨v407, rfl, ho0, hb⟩; refine ⟨_, rfl, ?_⟩; have n0_ := Aside0.mk (Kd.R_below (by (with_reducible repeat (first | apply Kd.R_alloc | apply Kd.R_drewN | apply Kd.R_drew)); exact HO405.out) hb); have n1_ := Aside0.mk (Kd.R_lower ho0 (below_size (by repeat (first | (with_reducible first | exact HB.out | apply below_alloc | apply pw_below_drewN | apply below_drew1) | exact HB.out)))); have n2_ := Aside0.mk (below_step (by repeat (first | (with_reducible first | exact HB.out | apply below_alloc | apply pw_below_drewN | apply below_drew1) | exact HB.out)) hb); clear HO405; clear HB; have HO405 := n0_; have HO408 := n1_; have HB := n2_; clear n0_ n1_ n2_; (try clear hb); (try clear hb2); (try clear hk); (try clear hi); (try clear ho0)) | ((with_reducible refine gate_callee (f := 31) rfl ?_); refine goesL_ (some 48) rfl rfl Try.func31 (by kernel_rfl) rfl #[] rfl (by (try simp only [List.map_toArray, List.map_cons, List.map_nil]); first | done | rfl | (simp only [List.length_drop, List.length_take]; rfl)) ?_; (with_reducible refine (headgatelaw32_marks.calls  t410 t411 t412 _ A45.out).mono ?_); rintro e w55 ⟨rfl, hb⟩; refine ⟨_, rfl, ?_⟩; have n0_ := Aside0.mk (Kd.R_below (by (with_reducible repeat (first | apply Kd.R_alloc | apply Kd.R_drewN | apply Kd.R_drew)); exact HO405.out) hb); have n1_ := Aside0.mk (Kd.R_below (by (with_reducible repeat (first | apply Kd.R_alloc | apply Kd.R_drewN | apply Kd.R_drew)); exact HO408.out) hb); have n2_ := Aside0.mk (below_step (by repeat (first | (with_reducible first | exact HB.out | apply below_alloc | apply pw_below_drewN | apply below_drew1) | exact HB.out)) hb); clear HO405; clear HO408; clear HB; have HO405 := n0_; have HO408 := n1_; have HB := n2_; clear n0_ n1_ n2_; (try clear hb); (try clear hb2); (try clear hk); (try clear hi)) | ((with_reducible refine gate_dst (N := 49) rfl ?_); (try (refine gate_guard (by rfl) ?_; dsimp only)); refine Kd.R_lit (Kd.int .i64) _ 3 ?hg (N := 49) ?hd (xs := ([9, 4, 2, 0] : List Int)) (inner := [.int .i64 9, .int .i64 4, .int .i64 2, .int .i64 0]) (ok := fun _ => True) (okp := fun _ => True) ?hr ?hp (fun _ hk => hk) trivial (Below.refl _ _) (Nat.le_refl _) (by simp) ?_; (case hd => rfl); (case hg => rfl); (case hr => first | (go_simp; done) | (go_simp; rfl)); (case hp => exact (Reps.one (show Kd.M (Kd.int .i64) _ _ _ 9 [.int .i64 9] from rfl) (Reps.one (show Kd.M (Kd.int .i64) _ _ _ 4 [.int .i64 4] from rfl) (Reps.one (show Kd.M (Kd.int .i64) _ _ _ 2 [.int .i64 2] from rfl) (Reps.one (show Kd.M (Kd.int .i64) _ _ _ 0 [.int .i64 0] from rfl) (Reps.none _ _)))))); intro v414 w56 ho57 hb hg_ hnew_; clear hg_ hnew_; (first | rw [← Ny413.out] at ho57 | (simp only [Int.reduceToNat] at ho57; rw [← Ny413.out] at ho57)); have n0_ := Aside0.mk (Kd.R_elder' (by (with_reducible repeat (first | apply Kd.R_alloc | apply Kd.R_drewN | apply Kd.R_drew)); exact HO405.out) (Kd.R_base ho57) hb); have n1_ := Aside0.mk (Kd.R_below (by (with_reducible repeat (first | apply Kd.R_alloc | apply Kd.R_drewN | apply Kd.R_drew)); exact HO408.out) hb); have n2_ := Aside0.mk (Kd.R_lower (Kd.R_new' ho57 (Kd.R_lt (by (with_reducible repeat (first | apply Kd.R_alloc | apply Kd.R_drewN | apply Kd.R_drew)); exact HO405.out))) (below_size (by repeat (first | (with_reducible first | exact HB.out | apply below_alloc | apply pw_below_drewN | apply below_drew1) | exact HB.out)))); have n3_ := Aside0.mk (below_step (by repeat (first | (with_reducible first | exact HB.out | apply below_alloc | apply pw_below_drewN | apply below_drew1) | exact HB.out)) hb); clear HO405; clear HO408; clear HB; have HO405 := n0_; have HO408 := n1_; have HO415 := n2_; have HB := n3_; clear n0_ n1_ n2_ n3_; clear hb ho57; obtain ⟨Ao58, co58, eo58⟩ := Kd.R_slice HO415.out; subst eo58) | ((with_reducible refine gate_callee (f := 23) rfl ?_); refine goesL_ (some 50) rfl rfl Try.func23 (by kernel_rfl) rfl #[.agg #[.int .i64 t410, .int .i64 t411, .int .i64 t412], .slice Ao58 y413.length co58] rfl (by (try simp only [List.map_toArray, List.map_cons, List.map_nil]); first | done | rfl | (simp only [List.length_drop, List.length_take]; rfl)) ?_; (with_reducible refine (pressure_Worst.calls kj2 t410 t411 t412 _ _ y413 t416 t417 t418 _ ?side1 ?side2 A46.out).mono ?_); (case side1 => repeat (first | exact (Kd.R_reads' HO415.out).2.2 | (with_reducible refine Kd.C_alloc ?_ _) | (with_reducible refine Kd.C_drewN ?_ _) | (with_reducible refine Kd.C_drew ?_))); (case side2 => exact (Kd.R_reads' HO415.out).2.1); rintro e w59 ⟨rfl, hb⟩; refine ⟨_, rfl, ?_⟩; have n0_ := Aside0.mk (Kd.R_below (by (with_reducible repeat (first | apply Kd.R_alloc | apply Kd.R_drewN | apply Kd.R_drew)); exact HO405.out) hb); have n1_ := Aside0.mk (Kd.R_below (by (with_reducible repeat (first | apply Kd.R_alloc | apply Kd.R_drewN | apply Kd.R_drew)); exact HO408.out) hb); have n2_ := Aside0.mk (Kd.R_below (by (with_reducible repeat (first | apply Kd.R_alloc | apply Kd.R_drewN | apply Kd.R_drew)); exact HO415.out) hb); have n3_ := Aside0.mk (below_step (by repeat (first | (with_reducible first | exact HB.out | apply below_alloc | apply pw_below_drewN | apply below_drew1) | exact HB.out)) hb); clear HO405; clear HO408; clear HO415; clear HB; have HO405 := n0_; have HO408 := n1_; have HO415 := n2_; have HB := n3_; clear n0_ n1_ n2_ n3_; (try clear hb); (try clear hb2); (try clear hk); (try clear hi)) | ((with_reducible refine gate_callee (f := 31) rfl ?_); refine goesL_ (some 55) rfl rfl Try.func31 (by kernel_rfl) rfl #[] rfl (by (try simp only [List.map_toArray, List.map_cons, List.map_nil]); first | done | rfl | (simp only [List.length_drop, List.length_take]; rfl)) ?_; (with_reducible refine (headgatelaw32_marks.calls  t419 t420 t421 _ A47.out).mono ?_); rintro e w60 ⟨rfl, hb⟩; refine ⟨_, rfl, ?_⟩; have n0_ := Aside0.mk (Kd.R_below (by (with_reducible repeat (first | apply Kd.R_alloc | apply Kd.R_drewN | apply Kd.R_drew)); exact HO405.out) hb); have n1_ := Aside0.mk (Kd.R_below (by (with_reducible repeat (first | apply Kd.R_alloc | apply Kd.R_drewN | apply Kd.R_drew)); exact HO408.out) hb); have n2_ := Aside0.mk (Kd.R_below (by (with_reducible repeat (first | apply Kd.R_alloc | apply Kd.R_drewN | apply Kd.R_drew)); exact HO415.out) hb); have n3_ := Aside0.mk (below_step (by repeat (first | (with_reducible first | exact HB.out | apply below_alloc | apply pw_below_drewN | apply below_drew1) | exact HB.out)) hb); clear HO405; clear HO408; clear HO415; clear HB; have HO405 := n0_; have HO408 := n1_; have HO415 := n2_; have HB := n3_; clear n0_ n1_ n2_ n3_; (try clear hb); (try clear hb2); (try clear hk); (try clear hi)) | ((with_reducible refine gate_callee (f := 23) rfl ?_); refine goesL_ (some 56) rfl rfl Try.func23 (by kernel_rfl) rfl #[.agg #[.int .i64 t419, .int .i64 t420, .int .i64 t421], .slice none 0 0] rfl (by (try simp only [List.map_toArray, List.map_cons, List.map_nil]); first | done | rfl | (simp only [List.length_drop, List.length_take]; rfl)) ?_; (refine (pressure_Worst.calls kj2 t419 t420 t421 _ _ ([] : List Int) t422 t423 t424 _ ?side1 ?side2 A48.out).mono ?_); (case side1 => exact Kd.C_nil _ _); (case side2 => exact Nat.le_refl _); rintro e w61 ⟨rfl, hb⟩; refine ⟨_, rfl, ?_⟩; have n0_ := Aside0.mk (Kd.R_below (by (with_reducible repeat (first | apply Kd.R_alloc | apply Kd.R_drewN | apply Kd.R_drew)); exact HO405.out) hb); have n1_ := Aside0.mk (Kd.R_below (by (with_reducible repeat (first | apply Kd.R_alloc | apply Kd.R_drewN | apply Kd.R_drew)); exact HO408.out) hb); have n2_ := Aside0.mk (Kd.R_below (by (with_reducible repeat (first | apply Kd.R_alloc | apply Kd.R_drewN | apply Kd.R_drew)); exact HO415.out) hb); have n3_ := Aside0.mk (below_step (by repeat (first | (with_reducible first | exact HB.out | apply below_alloc | apply pw_below_drewN | apply below_drew1) | exact HB.out)) hb); clear HO405; clear HO408; clear HO415; clear HB; have HO405 := n0_; have HO408 := n1_; have HO415 := n2_; have HB := n3_; clear n0_ n1_ n2_ n3_; (try clear hb); (try clear hb2); (try clear hk); (try clear hi)))
        (try simp only [Act.put, List.setIfInBounds_toArray, List.set_cons_zero, List.set_cons_succ])
        go_cut [93] (fun v93 wc => ∃ (kq : Nat) (x93_48 : Bool), v93 = .bool x93_48 ∧ Aside0 (headgatelaw32_PressureKnown.j1 kq x93_48 = some r) ∧ Aside0 (kq ≤ kj2) ∧ Aside0 (Below w.heap.size w wc))
        case first =>
          have H := HC49.out
          clear HC49
          by_cases c62 : t409 = 0
          · rw [if_pos c62] at H
            have c62b0 : (t409 == 0) = true := beq_iff_eq.mpr c62
            have c62b1 : (t409 != 0) = false := bne_eq_false_iff_eq.mpr c62
            clear c62
            (first | rw [c62b0] | (simp only [i64_w, i32_w]; rw [c62b0]) | skip)
            by_cases c63 : t418 = 0
            · rw [if_pos c63] at H
              have c63b0 : (t418 == 0) = true := beq_iff_eq.mpr c63
              have c63b1 : (t418 != 0) = false := bne_eq_false_iff_eq.mpr c63
              clear c63
              by_cases c64 : t424 = 0
              · rw [if_pos c64] at H
                have c64b0 : (t424 == 0) = true := beq_iff_eq.mpr c64
                have c64b1 : (t424 != 0) = false := bne_eq_false_iff_eq.mpr c64
                clear c64
                obtain ⟨y425, hy425⟩ : ∃ y_ : List (S49), y_ = (([(⟨1, 3⟩ : S49), (⟨6, 6⟩ : S49)] : List (S49))) := ⟨_, rfl⟩
                replace H : ((headgatelaw32_sameSpans.f kj2 t406 y425).bind fun t428 => (if t428 = true then (if t416 = 3 then (if t417 = 2 then (if t422 = 0 then (headgatelaw32_PressureKnown.j1 kj2 (t423 != (-1))) else (headgatelaw32_PressureKnown.j1 kj2 true)) else (headgatelaw32_PressureKnown.j1 kj2 true)) else (headgatelaw32_PressureKnown.j1 kj2 true)) else (headgatelaw32_PressureKnown.j1 kj2 true))) = some r := by first | (rw [hy425]; with_reducible exact H) | (have H2_ := (Option.bind_some _ _).symm.trans H; rw [hy425]; with_reducible exact H2_) | (have H2_ := (Option.bind_some _ _).symm.trans H; with_reducible exact H2_) | with_reducible exact H | (rw [hy425]; exact H) | exact H
                have Ny425 := Aside0.mk hy425
                clear hy425
                replace H := Option.bind_eq_some_iff.mp H
                obtain ⟨t428, A650, H⟩ := H
                replace H : (if t428 = true then (if t416 = 3 then (if t417 = 2 then (if t422 = 0 then (headgatelaw32_PressureKnown.j1 kj2 (t423 != (-1))) else (headgatelaw32_PressureKnown.j1 kj2 true)) else (headgatelaw32_PressureKnown.j1 kj2 true)) else (headgatelaw32_PressureKnown.j1 kj2 true)) else (headgatelaw32_PressureKnown.j1 kj2 true)) = some r := H
                have A65 := Aside0.mk A650
                clear A650
                by_cases c66 : t428 = true
                · subst c66
                  have H1 : (if t416 = 3 then (if t417 = 2 then (if t422 = 0 then (headgatelaw32_PressureKnown.j1 kj2 (t423 != (-1))) else (headgatelaw32_PressureKnown.j1 kj2 true)) else (headgatelaw32_PressureKnown.j1 kj2 true)) else (headgatelaw32_PressureKnown.j1 kj2 true)) = some r := by rw [if_pos rfl] at H; exact H
                  clear H
                  have H := H1
                  clear H1
                  by_cases c67 : t416 = 3
                  · rw [if_pos c67] at H
                    have c67b0 : (t416 == 3) = true := beq_iff_eq.mpr c67
                    have c67b1 : (t416 != 3) = false := bne_eq_false_iff_eq.mpr c67
                    clear c67
                    by_cases c68 : t417 = 2
                    · rw [if_pos c68] at H
                      have c68b0 : (t417 == 2) = true := beq_iff_eq.mpr c68
                      have c68b1 : (t417 != 2) = false := bne_eq_false_iff_eq.mpr c68
                      clear c68
                      by_cases c69 : t422 = 0
                      · rw [if_pos c69] at H
                        have c69b0 : (t422 == 0) = true := beq_iff_eq.mpr c69
                        have c69b1 : (t422 != 0) = false := bne_eq_false_iff_eq.mpr c69
                        clear c69
                        have H' := Aside0.mk H
                        clear H
                        go_wp2_with (first | ((with_reducible refine gate_dst (N := 74) rfl ?_); (try (refine gate_guard (by rfl) ?_; dsimp only)); refine Kd.R_lit k49 _ 49 ?hg (N := 74) ?hd (xs := ([(⟨1, 3⟩ : S49), (⟨6, 6⟩ : S49)] : List (S49))) (inner := [.int .i64 1, .int .i64 3, .int .i64 6, .int .i64 6]) (ok := fun _ => True) (okp := fun _ => True) ?hr ?hp (fun _ hk => hk) trivial (Below.refl _ _) (Nat.le_refl _) (by simp) ?_; (case hd => rfl); (case hg => rfl); (case hr => first | (go_simp; done) | (go_simp; rfl)); (case hp => exact (Reps.c2 (show Kd.M k49 _ _ _ (⟨1, 3⟩ : S49) [.int .i64 1, .int .i64 3] from (k49_mkM _ _ _ (⟨1, 3⟩ : S49) )) (Reps.c2 (show Kd.M k49 _ _ _ (⟨6, 6⟩ : S49) [.int .i64 6, .int .i64 6] from (k49_mkM _ _ _ (⟨6, 6⟩ : S49) )) (Reps.none _ _)))); intro v426 w70 ho71 hb hg_ hnew_; clear hg_ hnew_; (first | rw [← Ny425.out] at ho71 | (simp only [Int.reduceToNat] at ho71; rw [← Ny425.out] at ho71)); have n0_ := Aside0.mk (Kd.R_below (by (with_reducible repeat (first | apply Kd.R_alloc | apply Kd.R_drewN | apply Kd.R_drew)); exact HO405.out) hb); have n1_ := Aside0.mk (Kd.R_elder' (by (with_reducible repeat (first | apply Kd.R_alloc | apply Kd.R_drewN | apply Kd.R_drew)); exact HO408.out) (Kd.R_base ho71) hb); have n2_ := Aside0.mk (Kd.R_below (by (with_reducible repeat (first | apply Kd.R_alloc | apply Kd.R_drewN | apply Kd.R_drew)); exact HO415.out) hb); have n3_ := Aside0.mk (Kd.R_lower (Kd.R_new' ho71 (Kd.R_lt (by (with_reducible repeat (first | apply Kd.R_alloc | apply Kd.R_drewN | apply Kd.R_drew)); exact HO408.out))) (below_size (by repeat (first | (with_reducible first | exact HB.out | apply below_alloc | apply pw_below_drewN | apply below_drew1) | exact HB.out)))); have n4_ := Aside0.mk (below_step (by repeat (first | (with_reducible first | exact HB.out | apply below_alloc | apply pw_below_drewN | apply below_drew1) | exact HB.out)) hb); clear HO405; clear HO408; clear HO415; clear HB; have HO405 := n0_; have HO408 := n1_; have HO415 := n2_; have HO427 := n3_; have HB := n4_; clear n0_ n1_ n2_ n3_ n4_; clear hb ho71; obtain ⟨Ao72, co72, eo72⟩ := Kd.R_slice HO408.out; subst eo72; obtain ⟨Ao73, co73, eo73⟩ := Kd.R_slice HO427.out; subst eo73) | (go_at_call 28; (with_reducible refine (headgatelaw32_sameSpans.calls kj2 _ _ t406 _ _ y425 true _ ?side1 ?side2 ?side3 ?side4 A65.out).mono ?_); (case side1 => repeat (first | exact (Kd.R_reads' HO408.out).2.2 | (with_reducible refine Kd.C_alloc ?_ _) | (with_reducible refine Kd.C_drewN ?_ _) | (with_reducible refine Kd.C_drew ?_))); (case side2 => exact (Kd.R_reads' HO408.out).2.1); (case side3 => repeat (first | exact (Kd.R_reads' HO427.out).2.2 | (with_reducible refine Kd.C_alloc ?_ _) | (with_reducible refine Kd.C_drewN ?_ _) | (with_reducible refine Kd.C_drew ?_))); (case side4 => exact (Kd.R_reads' HO427.out).2.1); rintro e w' ⟨rfl, ⟨nd, rfl⟩⟩))
                        go_meet
                        case rel => exact ⟨_, ((t423 != (-1))), (by first | rfl | (simp; done) | (simp [*]; done)), H', ⟨by have := HJ2.out; first | omega | exact Nat.le_refl _⟩, ⟨by repeat (first | (with_reducible first | exact HB.out | apply below_alloc | apply pw_below_drewN | apply below_drew1) | exact HB.out)⟩⟩
                      · rw [if_neg c69] at H
                        have c69b0 : (t422 == 0) = false := beq_eq_false_iff_ne.mpr c69
                        have c69b1 : (t422 != 0) = true := bne_iff_ne.mpr c69
                        have H' := Aside0.mk H
                        clear H
                        go_wp2_with (first | ((with_reducible refine gate_dst (N := 74) rfl ?_); (try (refine gate_guard (by rfl) ?_; dsimp only)); refine Kd.R_lit k49 _ 49 ?hg (N := 74) ?hd (xs := ([(⟨1, 3⟩ : S49), (⟨6, 6⟩ : S49)] : List (S49))) (inner := [.int .i64 1, .int .i64 3, .int .i64 6, .int .i64 6]) (ok := fun _ => True) (okp := fun _ => True) ?hr ?hp (fun _ hk => hk) trivial (Below.refl _ _) (Nat.le_refl _) (by simp) ?_; (case hd => rfl); (case hg => rfl); (case hr => first | (go_simp; done) | (go_simp; rfl)); (case hp => exact (Reps.c2 (show Kd.M k49 _ _ _ (⟨1, 3⟩ : S49) [.int .i64 1, .int .i64 3] from (k49_mkM _ _ _ (⟨1, 3⟩ : S49) )) (Reps.c2 (show Kd.M k49 _ _ _ (⟨6, 6⟩ : S49) [.int .i64 6, .int .i64 6] from (k49_mkM _ _ _ (⟨6, 6⟩ : S49) )) (Reps.none _ _)))); intro v426 w74 ho75 hb hg_ hnew_; clear hg_ hnew_; (first | rw [← Ny425.out] at ho75 | (simp only [Int.reduceToNat] at ho75; rw [← Ny425.out] at ho75)); have n0_ := Aside0.mk (Kd.R_below (by (with_reducible repeat (first | apply Kd.R_alloc | apply Kd.R_drewN | apply Kd.R_drew)); exact HO405.out) hb); have n1_ := Aside0.mk (Kd.R_elder' (by (with_reducible repeat (first | apply Kd.R_alloc | apply Kd.R_drewN | apply Kd.R_drew)); exact HO408.out) (Kd.R_base ho75) hb); have n2_ := Aside0.mk (Kd.R_below (by (with_reducible repeat (first | apply Kd.R_alloc | apply Kd.R_drewN | apply Kd.R_drew)); exact HO415.out) hb); have n3_ := Aside0.mk (Kd.R_lower (Kd.R_new' ho75 (Kd.R_lt (by (with_reducible repeat (first | apply Kd.R_alloc | apply Kd.R_drewN | apply Kd.R_drew)); exact HO408.out))) (below_size (by repeat (first | (with_reducible first | exact HB.out | apply below_alloc | apply pw_below_drewN | apply below_drew1) | exact HB.out)))); have n4_ := Aside0.mk (below_step (by repeat (first | (with_reducible first | exact HB.out | apply below_alloc | apply pw_below_drewN | apply below_drew1) | exact HB.out)) hb); clear HO405; clear HO408; clear HO415; clear HB; have HO405 := n0_; have HO408 := n1_; have HO415 := n2_; have HO427 := n3_; have HB := n4_; clear n0_ n1_ n2_ n3_ n4_; clear hb ho75; obtain ⟨Ao76, co76, eo76⟩ := Kd.R_slice HO408.out; subst eo76; obtain ⟨Ao77, co77, eo77⟩ := Kd.R_slice HO427.out; subst eo77) | (go_at_call 28; (with_reducible refine (headgatelaw32_sameSpans.calls kj2 _ _ t406 _ _ y425 true _ ?side1 ?side2 ?side3 ?side4 A65.out).mono ?_); (case side1 => repeat (first | exact (Kd.R_reads' HO408.out).2.2 | (with_reducible refine Kd.C_alloc ?_ _) | (with_reducible refine Kd.C_drewN ?_ _) | (with_reducible refine Kd.C_drew ?_))); (case side2 => exact (Kd.R_reads' HO408.out).2.1); (case side3 => repeat (first | exact (Kd.R_reads' HO427.out).2.2 | (with_reducible refine Kd.C_alloc ?_ _) | (with_reducible refine Kd.C_drewN ?_ _) | (with_reducible refine Kd.C_drew ?_))); (case side4 => exact (Kd.R_reads' HO427.out).2.1); rintro e w' ⟨rfl, ⟨nd, rfl⟩⟩))
                        go_meet
                        case rel => exact ⟨_, (true), (by first | rfl | (simp; done) | (simp [*]; done)), H', ⟨by have := HJ2.out; first | omega | exact Nat.le_refl _⟩, ⟨by repeat (first | (with_reducible first | exact HB.out | apply below_alloc | apply pw_below_drewN | apply below_drew1) | exact HB.out)⟩⟩
                    · rw [if_neg c68] at H
                      have c68b0 : (t417 == 2) = false := beq_eq_false_iff_ne.mpr c68
                      have c68b1 : (t417 != 2) = true := bne_iff_ne.mpr c68
                      have H' := Aside0.mk H
                      clear H
                      go_wp2_with (first | ((with_reducible refine gate_dst (N := 74) rfl ?_); (try (refine gate_guard (by rfl) ?_; dsimp only)); refine Kd.R_lit k49 _ 49 ?hg (N := 74) ?hd (xs := ([(⟨1, 3⟩ : S49), (⟨6, 6⟩ : S49)] : List (S49))) (inner := [.int .i64 1, .int .i64 3, .int .i64 6, .int .i64 6]) (ok := fun _ => True) (okp := fun _ => True) ?hr ?hp (fun _ hk => hk) trivial (Below.refl _ _) (Nat.le_refl _) (by simp) ?_; (case hd => rfl); (case hg => rfl); (case hr => first | (go_simp; done) | (go_simp; rfl)); (case hp => exact (Reps.c2 (show Kd.M k49 _ _ _ (⟨1, 3⟩ : S49) [.int .i64 1, .int .i64 3] from (k49_mkM _ _ _ (⟨1, 3⟩ : S49) )) (Reps.c2 (show Kd.M k49 _ _ _ (⟨6, 6⟩ : S49) [.int .i64 6, .int .i64 6] from (k49_mkM _ _ _ (⟨6, 6⟩ : S49) )) (Reps.none _ _)))); intro v426 w78 ho79 hb hg_ hnew_; clear hg_ hnew_; (first | rw [← Ny425.out] at ho79 | (simp only [Int.reduceToNat] at ho79; rw [← Ny425.out] at ho79)); have n0_ := Aside0.mk (Kd.R_below (by (with_reducible repeat (first | apply Kd.R_alloc | apply Kd.R_drewN | apply Kd.R_drew)); exact HO405.out) hb); have n1_ := Aside0.mk (Kd.R_elder' (by (with_reducible repeat (first | apply Kd.R_alloc | apply Kd.R_drewN | apply Kd.R_drew)); exact HO408.out) (Kd.R_base ho79) hb); have n2_ := Aside0.mk (Kd.R_below (by (with_reducible repeat (first | apply Kd.R_alloc | apply Kd.R_drewN | apply Kd.R_drew)); exact HO415.out) hb); have n3_ := Aside0.mk (Kd.R_lower (Kd.R_new' ho79 (Kd.R_lt (by (with_reducible repeat (first | apply Kd.R_alloc | apply Kd.R_drewN | apply Kd.R_drew)); exact HO408.out))) (below_size (by repeat (first | (with_reducible first | exact HB.out | apply below_alloc | apply pw_below_drewN | apply below_drew1) | exact HB.out)))); have n4_ := Aside0.mk (below_step (by repeat (first | (with_reducible first | exact HB.out | apply below_alloc | apply pw_below_drewN | apply below_drew1) | exact HB.out)) hb); clear HO405; clear HO408; clear HO415; clear HB; have HO405 := n0_; have HO408 := n1_; have HO415 := n2_; have HO427 := n3_; have HB := n4_; clear n0_ n1_ n2_ n3_ n4_; clear hb ho79; obtain ⟨Ao80, co80, eo80⟩ := Kd.R_slice HO408.out; subst eo80; obtain ⟨Ao81, co81, eo81⟩ := Kd.R_slice HO427.out; subst eo81) | (go_at_call 28; (with_reducible refine (headgatelaw32_sameSpans.calls kj2 _ _ t406 _ _ y425 true _ ?side1 ?side2 ?side3 ?side4 A65.out).mono ?_); (case side1 => repeat (first | exact (Kd.R_reads' HO408.out).2.2 | (with_reducible refine Kd.C_alloc ?_ _) | (with_reducible refine Kd.C_drewN ?_ _) | (with_reducible refine Kd.C_drew ?_))); (case side2 => exact (Kd.R_reads' HO408.out).2.1); (case side3 => repeat (first | exact (Kd.R_reads' HO427.out).2.2 | (with_reducible refine Kd.C_alloc ?_ _) | (with_reducible refine Kd.C_drewN ?_ _) | (with_reducible refine Kd.C_drew ?_))); (case side4 => exact (Kd.R_reads' HO427.out).2.1); rintro e w' ⟨rfl, ⟨nd, rfl⟩⟩))
                      go_meet
                      case rel => exact ⟨_, (true), (by first | rfl | (simp; done) | (simp [*]; done)), H', ⟨by have := HJ2.out; first | omega | exact Nat.le_refl _⟩, ⟨by repeat (first | (with_reducible first | exact HB.out | apply below_alloc | apply pw_below_drewN | apply below_drew1) | exact HB.out)⟩⟩
                  · rw [if_neg c67] at H
                    have c67b0 : (t416 == 3) = false := beq_eq_false_iff_ne.mpr c67
                    have c67b1 : (t416 != 3) = true := bne_iff_ne.mpr c67
                    have H' := Aside0.mk H
                    clear H
                    go_wp2_with (first | ((with_reducible refine gate_dst (N := 74) rfl ?_); (try (refine gate_guard (by rfl) ?_; dsimp only)); refine Kd.R_lit k49 _ 49 ?hg (N := 74) ?hd (xs := ([(⟨1, 3⟩ : S49), (⟨6, 6⟩ : S49)] : List (S49))) (inner := [.int .i64 1, .int .i64 3, .int .i64 6, .int .i64 6]) (ok := fun _ => True) (okp := fun _ => True) ?hr ?hp (fun _ hk => hk) trivial (Below.refl _ _) (Nat.le_refl _) (by simp) ?_; (case hd => rfl); (case hg => rfl); (case hr => first | (go_simp; done) | (go_simp; rfl)); (case hp => exact (Reps.c2 (show Kd.M k49 _ _ _ (⟨1, 3⟩ : S49) [.int .i64 1, .int .i64 3] from (k49_mkM _ _ _ (⟨1, 3⟩ : S49) )) (Reps.c2 (show Kd.M k49 _ _ _ (⟨6, 6⟩ : S49) [.int .i64 6, .int .i64 6] from (k49_mkM _ _ _ (⟨6, 6⟩ : S49) )) (Reps.none _ _)))); intro v426 w82 ho83 hb hg_ hnew_; clear hg_ hnew_; (first | rw [← Ny425.out] at ho83 | (simp only [Int.reduceToNat] at ho83; rw [← Ny425.out] at ho83)); have n0_ := Aside0.mk (Kd.R_below (by (with_reducible repeat (first | apply Kd.R_alloc | apply Kd.R_drewN | apply Kd.R_drew)); exact HO405.out) hb); have n1_ := Aside0.mk (Kd.R_elder' (by (with_reducible repeat (first | apply Kd.R_alloc | apply Kd.R_drewN | apply Kd.R_drew)); exact HO408.out) (Kd.R_base ho83) hb); have n2_ := Aside0.mk (Kd.R_below (by (with_reducible repeat (first | apply Kd.R_alloc | apply Kd.R_drewN | apply Kd.R_drew)); exact HO415.out) hb); have n3_ := Aside0.mk (Kd.R_lower (Kd.R_new' ho83 (Kd.R_lt (by (with_reducible repeat (first | apply Kd.R_alloc | apply Kd.R_drewN | apply Kd.R_drew)); exact HO408.out))) (below_size (by repeat (first | (with_reducible first | exact HB.out | apply below_alloc | apply pw_below_drewN | apply below_drew1) | exact HB.out)))); have n4_ := Aside0.mk (below_step (by repeat (first | (with_reducible first | exact HB.out | apply below_alloc | apply pw_below_drewN | apply below_drew1) | exact HB.out)) hb); clear HO405; clear HO408; clear HO415; clear HB; have HO405 := n0_; have HO408 := n1_; have HO415 := n2_; have HO427 := n3_; have HB := n4_; clear n0_ n1_ n2_ n3_ n4_; clear hb ho83; obtain ⟨Ao84, co84, eo84⟩ := Kd.R_slice HO408.out; subst eo84; obtain ⟨Ao85, co85, eo85⟩ := Kd.R_slice HO427.out; subst eo85) | (go_at_call 28; (with_reducible refine (headgatelaw32_sameSpans.calls kj2 _ _ t406 _ _ y425 true _ ?side1 ?side2 ?side3 ?side4 A65.out).mono ?_); (case side1 => repeat (first | exact (Kd.R_reads' HO408.out).2.2 | (with_reducible refine Kd.C_alloc ?_ _) | (with_reducible refine Kd.C_drewN ?_ _) | (with_reducible refine Kd.C_drew ?_))); (case side2 => exact (Kd.R_reads' HO408.out).2.1); (case side3 => repeat (first | exact (Kd.R_reads' HO427.out).2.2 | (with_reducible refine Kd.C_alloc ?_ _) | (with_reducible refine Kd.C_drewN ?_ _) | (with_reducible refine Kd.C_drew ?_))); (case side4 => exact (Kd.R_reads' HO427.out).2.1); rintro e w' ⟨rfl, ⟨nd, rfl⟩⟩))
                    go_meet
                    case rel => exact ⟨_, (true), (by first | rfl | (simp; done) | (simp [*]; done)), H', ⟨by have := HJ2.out; first | omega | exact Nat.le_refl _⟩, ⟨by repeat (first | (with_reducible first | exact HB.out | apply below_alloc | apply pw_below_drewN | apply below_drew1) | exact HB.out)⟩⟩
                · replace c66 := Bool.eq_false_iff.mpr c66
                  subst c66
                  have H1 : (headgatelaw32_PressureKnown.j1 kj2 true) = some r := by rw [if_neg (show ¬ (false = true) by decide)] at H; exact H
                  clear H
                  have H := H1
                  clear H1
                  have H' := Aside0.mk H
                  clear H
                  go_wp2_with (first | ((with_reducible refine gate_dst (N := 74) rfl ?_); (try (refine gate_guard (by rfl) ?_; dsimp only)); refine Kd.R_lit k49 _ 49 ?hg (N := 74) ?hd (xs := ([(⟨1, 3⟩ : S49), (⟨6, 6⟩ : S49)] : List (S49))) (inner := [.int .i64 1, .int .i64 3, .int .i64 6, .int .i64 6]) (ok := fun _ => True) (okp := fun _ => True) ?hr ?hp (fun _ hk => hk) trivial (Below.refl _ _) (Nat.le_refl _) (by simp) ?_; (case hd => rfl); (case hg => rfl); (case hr => first | (go_simp; done) | (go_simp; rfl)); (case hp => exact (Reps.c2 (show Kd.M k49 _ _ _ (⟨1, 3⟩ : S49) [.int .i64 1, .int .i64 3] from (k49_mkM _ _ _ (⟨1, 3⟩ : S49) )) (Reps.c2 (show Kd.M k49 _ _ _ (⟨6, 6⟩ : S49) [.int .i64 6, .int .i64 6] from (k49_mkM _ _ _ (⟨6, 6⟩ : S49) )) (Reps.none _ _)))); intro v426 w86 ho87 hb hg_ hnew_; clear hg_ hnew_; (first | rw [← Ny425.out] at ho87 | (simp only [Int.reduceToNat] at ho87; rw [← Ny425.out] at ho87)); have n0_ := Aside0.mk (Kd.R_below (by (with_reducible repeat (first | apply Kd.R_alloc | apply Kd.R_drewN | apply Kd.R_drew)); exact HO405.out) hb); have n1_ := Aside0.mk (Kd.R_elder' (by (with_reducible repeat (first | apply Kd.R_alloc | apply Kd.R_drewN | apply Kd.R_drew)); exact HO408.out) (Kd.R_base ho87) hb); have n2_ := Aside0.mk (Kd.R_below (by (with_reducible repeat (first | apply Kd.R_alloc | apply Kd.R_drewN | apply Kd.R_drew)); exact HO415.out) hb); have n3_ := Aside0.mk (Kd.R_lower (Kd.R_new' ho87 (Kd.R_lt (by (with_reducible repeat (first | apply Kd.R_alloc | apply Kd.R_drewN | apply Kd.R_drew)); exact HO408.out))) (below_size (by repeat (first | (with_reducible first | exact HB.out | apply below_alloc | apply pw_below_drewN | apply below_drew1) | exact HB.out)))); have n4_ := Aside0.mk (below_step (by repeat (first | (with_reducible first | exact HB.out | apply below_alloc | apply pw_below_drewN | apply below_drew1) | exact HB.out)) hb); clear HO405; clear HO408; clear HO415; clear HB; have HO405 := n0_; have HO408 := n1_; have HO415 := n2_; have HO427 := n3_; have HB := n4_; clear n0_ n1_ n2_ n3_ n4_; clear hb ho87; obtain ⟨Ao88, co88, eo88⟩ := Kd.R_slice HO408.out; subst eo88; obtain ⟨Ao89, co89, eo89⟩ := Kd.R_slice HO427.out; subst eo89) | (go_at_call 28; (with_reducible refine (headgatelaw32_sameSpans.calls kj2 _ _ t406 _ _ y425 false _ ?side1 ?side2 ?side3 ?side4 A65.out).mono ?_); (case side1 => repeat (first | exact (Kd.R_reads' HO408.out).2.2 | (with_reducible refine Kd.C_alloc ?_ _) | (with_reducible refine Kd.C_drewN ?_ _) | (with_reducible refine Kd.C_drew ?_))); (case side2 => exact (Kd.R_reads' HO408.out).2.1); (case side3 => repeat (first | exact (Kd.R_reads' HO427.out).2.2 | (with_reducible refine Kd.C_alloc ?_ _) | (with_reducible refine Kd.C_drewN ?_ _) | (with_reducible refine Kd.C_drew ?_))); (case side4 => exact (Kd.R_reads' HO427.out).2.1); rintro e w' ⟨rfl, ⟨nd, rfl⟩⟩))
                  go_meet
                  case rel => exact ⟨_, (true), (by first | rfl | (simp; done) | (simp [*]; done)), H', ⟨by have := HJ2.out; first | omega | exact Nat.le_refl _⟩, ⟨by repeat (first | (with_reducible first | exact HB.out | apply below_alloc | apply pw_below_drewN | apply below_drew1) | exact HB.out)⟩⟩
              · rw [if_neg c64] at H
                have c64b0 : (t424 == 0) = false := beq_eq_false_iff_ne.mpr c64
                have c64b1 : (t424 != 0) = true := bne_iff_ne.mpr c64
                have H' := Aside0.mk H
                clear H
                go_wp2
                go_meet
                case rel => exact ⟨_, (true), (by first | rfl | (simp; done) | (simp [*]; done)), H', ⟨by have := HJ2.out; first | omega | exact Nat.le_refl _⟩, ⟨by repeat (first | (with_reducible first | exact HB.out | apply below_alloc | apply pw_below_drewN | apply below_drew1) | exact HB.out)⟩⟩
            · rw [if_neg c63] at H
              have c63b0 : (t418 == 0) = false := beq_eq_false_iff_ne.mpr c63
              have c63b1 : (t418 != 0) = true := bne_iff_ne.mpr c63
              have H' := Aside0.mk H
              clear H
              go_wp2
              go_meet
              case rel => exact ⟨_, (true), (by first | rfl | (simp; done) | (simp [*]; done)), H', ⟨by have := HJ2.out; first | omega | exact Nat.le_refl _⟩, ⟨by repeat (first | (with_reducible first | exact HB.out | apply below_alloc | apply pw_below_drewN | apply below_drew1) | exact HB.out)⟩⟩
          · rw [if_neg c62] at H
            have c62b0 : (t409 == 0) = false := beq_eq_false_iff_ne.mpr c62
            have c62b1 : (t409 != 0) = true := bne_iff_ne.mpr c62
            (first | rw [c62b0] | (simp only [i64_w, i32_w]; rw [c62b0]) | skip)
            have H' := Aside0.mk H
            clear H
            go_wp2
            go_meet
            case rel => exact ⟨_, (true), (by first | rfl | (simp; done) | (simp [*]; done)), H', ⟨by have := HJ2.out; first | omega | exact Nat.le_refl _⟩, ⟨by repeat (first | (with_reducible first | exact HB.out | apply below_alloc | apply pw_below_drewN | apply below_drew1) | exact HB.out)⟩⟩
        case rest =>
          clear HC49
          try clear c1
          try clear c2
          try clear p2
          try clear c3
          try clear c4
          try clear c6
          try clear c7
          try clear c8
          try clear c9
          try clear c11
          try clear c12
          try clear c12b0
          try clear c12b1
          try clear c14
          try clear c16
          try clear c23
          try clear c24
          try clear c31
          try clear c32
          try clear c42
          try clear c62
          try clear c62b0
          try clear c62b1
          try clear c63
          try clear c63b0
          try clear c63b1
          try clear c64
          try clear c64b0
          try clear c64b1
          try clear c66
          try clear c67
          try clear c67b0
          try clear c67b1
          try clear c68
          try clear c68b0
          try clear c68b1
          try clear c69
          try clear c69b0
          try clear c69b1
          try clear p2
          obtain ⟨kq, x93_48, rfl, HA, HJ48, HB⟩ := hcut
          cases kq with
          | zero => exact absurd HA.out (by simp [headgatelaw32_PressureKnown.j1])
          | succ kj48 =>
            have H := HA.out
            clear HA
            simp only [headgatelaw32_PressureKnown.j1] at H
            by_cases c90 : x93_48 = true
            · subst c90
              have H1 : (some false) = some r := by rw [if_pos rfl] at H; exact H
              clear H
              have H := H1
              clear H1
              obtain rfl := Option.some.inj H
              go_wp2
              go_ret
              exact ⟨by first | rfl | (simp [errW_none, errW_some] <;> rfl) | (simp [*, errW_none, errW_some] <;> rfl), by repeat (first | (with_reducible first | exact HB.out | apply below_alloc | apply pw_below_drewN | apply below_drew1) | exact HB.out)⟩
            · replace c90 := Bool.eq_false_iff.mpr c90
              subst c90
              have H1 : ((headgatelaw32_misses.f kj48 true 6 3).bind fun t429 => (if t429 = true then ((headgatelaw32_misses.f kj48 false 6 0).bind fun t430 => (if t430 = true then ((headgatelaw32_misses.f kj48 false 4 5).bind fun t431 => (if t431 = true then ((pressure_Check.f kj48 2 2 9).bind fun t432 => (if t432 = 8 then ((pressure_Check.f kj48 (-1) 2 9).bind fun t433 => (if t433 = 2 then ((pressure_Check.f kj48 2 5 257).bind fun t434 => (if t434 = 2 then ((headgatelaw32_awake.f kj48).bind fun t435 => (some t435)) else (some false))) else (some false))) else (some false))) else (some false))) else (some false))) else (some false))) = some r := by rw [if_neg (show ¬ (false = true) by decide)] at H; exact H
              clear H
              have H := H1
              clear H1
              replace H := Option.bind_eq_some_iff.mp H
              obtain ⟨t429, A910, H⟩ := H
              replace H : (if t429 = true then ((headgatelaw32_misses.f kj48 false 6 0).bind fun t430 => (if t430 = true then ((headgatelaw32_misses.f kj48 false 4 5).bind fun t431 => (if t431 = true then ((pressure_Check.f kj48 2 2 9).bind fun t432 => (if t432 = 8 then ((pressure_Check.f kj48 (-1) 2 9).bind fun t433 => (if t433 = 2 then ((pressure_Check.f kj48 2 5 257).bind fun t434 => (if t434 = 2 then ((headgatelaw32_awake.f kj48).bind fun t435 => (some t435)) else (some false))) else (some false))) else (some false))) else (some false))) else (some false))) else (some false)) = some r := H
              have A91 := Aside0.mk A910
              clear A910
              by_cases c92 : t429 = true
              · subst c92
                have H1 : ((headgatelaw32_misses.f kj48 false 6 0).bind fun t430 => (if t430 = true then ((headgatelaw32_misses.f kj48 false 4 5).bind fun t431 => (if t431 = true then ((pressure_Check.f kj48 2 2 9).bind fun t432 => (if t432 = 8 then ((pressure_Check.f kj48 (-1) 2 9).bind fun t433 => (if t433 = 2 then ((pressure_Check.f kj48 2 5 257).bind fun t434 => (if t434 = 2 then ((headgatelaw32_awake.f kj48).bind fun t435 => (some t435)) else (some false))) else (some false))) else (some false))) else (some false))) else (some false))) = some r := by rw [if_pos rfl] at H; exact H
                clear H
                have H := H1
                clear H1
                replace H := Option.bind_eq_some_iff.mp H
                obtain ⟨t430, A930, H⟩ := H
                replace H : (if t430 = true then ((headgatelaw32_misses.f kj48 false 4 5).bind fun t431 => (if t431 = true then ((pressure_Check.f kj48 2 2 9).bind fun t432 => (if t432 = 8 then ((pressure_Check.f kj48 (-1) 2 9).bind fun t433 => (if t433 = 2 then ((pressure_Check.f kj48 2 5 257).bind fun t434 => (if t434 = 2 then ((headgatelaw32_awake.f kj48).bind fun t435 => (some t435)) else (some false))) else (some false))) else (some false))) else (some false))) else (some false)) = some r := H
                have A93 := Aside0.mk A930
                clear A930
                by_cases c94 : t430 = true
                · subst c94
                  have H1 : ((headgatelaw32_misses.f kj48 false 4 5).bind fun t431 => (if t431 = true then ((pressure_Check.f kj48 2 2 9).bind fun t432 => (if t432 = 8 then ((pressure_Check.f kj48 (-1) 2 9).bind fun t433 => (if t433 = 2 then ((pressure_Check.f kj48 2 5 257).bind fun t434 => (if t434 = 2 then ((headgatelaw32_awake.f kj48).bind fun t435 => (some t435)) else (some false))) else (some false))) else (some false))) else (some false))) = some r := by rw [if_pos rfl] at H; exact H
                  clear H
                  have H := H1
                  clear H1
                  replace H := Option.bind_eq_some_iff.mp H
                  obtain ⟨t431, A950, H⟩ := H
                  replace H : (if t431 = true then ((pressure_Check.f kj48 2 2 9).bind fun t432 => (if t432 = 8 then ((pressure_Check.f kj48 (-1) 2 9).bind fun t433 => (if t433 = 2 then ((pressure_Check.f kj48 2 5 257).bind fun t434 => (if t434 = 2 then ((headgatelaw32_awake.f kj48).bind fun t435 => (some t435)) else (some false))) else (some false))) else (some false))) else (some false)) = some r := H
                  have A95 := Aside0.mk A950
                  clear A950
                  by_cases c96 : t431 = true
                  · subst c96
                    have H1 : ((pressure_Check.f kj48 2 2 9).bind fun t432 => (if t432 = 8 then ((pressure_Check.f kj48 (-1) 2 9).bind fun t433 => (if t433 = 2 then ((pressure_Check.f kj48 2 5 257).bind fun t434 => (if t434 = 2 then ((headgatelaw32_awake.f kj48).bind fun t435 => (some t435)) else (some false))) else (some false))) else (some false))) = some r := by rw [if_pos rfl] at H; exact H
                    clear H
                    have H := H1
                    clear H1
                    replace H := Option.bind_eq_some_iff.mp H
                    obtain ⟨t432, A970, H⟩ := H
                    replace H : (if t432 = 8 then ((pressure_Check.f kj48 (-1) 2 9).bind fun t433 => (if t433 = 2 then ((pressure_Check.f kj48 2 5 257).bind fun t434 => (if t434 = 2 then ((headgatelaw32_awake.f kj48).bind fun t435 => (some t435)) else (some false))) else (some false))) else (some false)) = some r := H
                    have A97 := Aside0.mk A970
                    clear A970
                    by_cases c98 : t432 = 8
                    · rw [if_pos c98] at H
                      have c98b0 : (t432 == 8) = true := beq_iff_eq.mpr c98
                      have c98b1 : (t432 != 8) = false := bne_eq_false_iff_eq.mpr c98
                      clear c98
                      replace H := Option.bind_eq_some_iff.mp H
                      obtain ⟨t433, A990, H⟩ := H
                      replace H : (if t433 = 2 then ((pressure_Check.f kj48 2 5 257).bind fun t434 => (if t434 = 2 then ((headgatelaw32_awake.f kj48).bind fun t435 => (some t435)) else (some false))) else (some false)) = some r := H
                      have A99 := Aside0.mk A990
                      clear A990
                      by_cases c100 : t433 = 2
                      · rw [if_pos c100] at H
                        have c100b0 : (t433 == 2) = true := beq_iff_eq.mpr c100
                        have c100b1 : (t433 != 2) = false := bne_eq_false_iff_eq.mpr c100
                        clear c100
                        replace H := Option.bind_eq_some_iff.mp H
                        obtain ⟨t434, A1010, H⟩ := H
                        replace H : (if t434 = 2 then ((headgatelaw32_awake.f kj48).bind fun t435 => (some t435)) else (some false)) = some r := H
                        have A101 := Aside0.mk A1010
                        clear A1010
                        by_cases c102 : t434 = 2
                        · rw [if_pos c102] at H
                          have c102b0 : (t434 == 2) = true := beq_iff_eq.mpr c102
                          have c102b1 : (t434 != 2) = false := bne_eq_false_iff_eq.mpr c102
                          clear c102
                          replace H := Option.bind_eq_some_iff.mp H
                          obtain ⟨t435, A1030, H⟩ := H
                          replace H : (some t435) = some r := H
                          have A103 := Aside0.mk A1030
                          clear A1030
                          obtain rfl := Option.some.inj H
                          go_wp2_with (first | ((with_reducible refine gate_callee (f := 34) rfl ?_); refine goesL_ (some 94) rfl rfl Try.func34 (by kernel_rfl) rfl #[.bool true, .int .i64 6, .int .i64 3] rfl (by (try simp only [List.map_toArray, List.map_cons, List.map_nil]); first | done | rfl | (simp only [List.length_drop, List.length_take]; rfl)) ?_; (with_reducible refine (headgatelaw32_misses.calls kj48 true 6 3 true _ A91.out).mono ?_); rintro e w104 ⟨rfl, hb⟩; refine ⟨_, rfl, ?_⟩; have n0_ := Aside0.mk (below_step (by repeat (first | (with_reducible first | exact HB.out | apply below_alloc | apply pw_below_drewN | apply below_drew1) | exact HB.out)) hb); clear HB; have HB := n0_; clear n0_; (try clear hb); (try clear hb2); (try clear hk); (try clear hi)) | (go_at_call 34; (with_reducible refine (headgatelaw32_misses.calls kj48 false 6 0 true _ A93.out).mono ?_); rintro e w105 ⟨rfl, hb⟩; have n0_ := Aside0.mk (below_step (by repeat (first | (with_reducible first | exact HB.out | apply below_alloc | apply pw_below_drewN | apply below_drew1) | exact HB.out)) hb); clear HB; have HB := n0_; clear n0_; (try clear hb); (try clear hb2); (try clear hk); (try clear hi)) | (go_at_call 34; (with_reducible refine (headgatelaw32_misses.calls kj48 false 4 5 true _ A95.out).mono ?_); rintro e w106 ⟨rfl, hb⟩; have n0_ := Aside0.mk (below_step (by repeat (first | (with_reducible first | exact HB.out | apply below_alloc | apply pw_below_drewN | apply below_drew1) | exact HB.out)) hb); clear HB; have HB := n0_; clear n0_; (try clear hb); (try clear hb2); (try clear hk); (try clear hi)) | (go_at_call 11; (with_reducible refine (pressure_Check.calls kj48 2 2 9 t432 _ A97.out).mono ?_); rintro e w107 ⟨rfl, hb⟩; have n0_ := Aside0.mk (below_step (by repeat (first | (with_reducible first | exact HB.out | apply below_alloc | apply pw_below_drewN | apply below_drew1) | exact HB.out)) hb); clear HB; have HB := n0_; clear n0_; (try clear hb); (try clear hb2); (try clear hk); (try clear hi)) | (go_at_call 11; (with_reducible refine (pressure_Check.calls kj48 (-1) 2 9 t433 _ A99.out).mono ?_); rintro e w108 ⟨rfl, hb⟩; have n0_ := Aside0.mk (below_step (by repeat (first | (with_reducible first | exact HB.out | apply below_alloc | apply pw_below_drewN | apply below_drew1) | exact HB.out)) hb); clear HB; have HB := n0_; clear n0_; (try clear hb); (try clear hb2); (try clear hk); (try clear hi)) | (go_at_call 11; (with_reducible refine (pressure_Check.calls kj48 2 5 257 t434 _ A101.out).mono ?_); rintro e w109 ⟨rfl, hb⟩; have n0_ := Aside0.mk (below_step (by repeat (first | (with_reducible first | exact HB.out | apply below_alloc | apply pw_below_drewN | apply below_drew1) | exact HB.out)) hb); clear HB; have HB := n0_; clear n0_; (try clear hb); (try clear hb2); (try clear hk); (try clear hi)) | (go_at_call 17; (with_reducible refine (headgatelaw32_awake.calls kj48  t435 _ A103.out).mono ?_); rintro e w110 ⟨rfl, hb⟩; have n0_ := Aside0.mk (below_step (by repeat (first | (with_reducible first | exact HB.out | apply below_alloc | apply pw_below_drewN | apply below_drew1) | exact HB.out)) hb); clear HB; have HB := n0_; clear n0_; (try clear hb); (try clear hb2); (try clear hk); (try clear hi)))
                          go_ret
                          exact ⟨by first | rfl | (simp [errW_none, errW_some] <;> rfl) | (simp [*, errW_none, errW_some] <;> rfl), by repeat (first | (with_reducible first | exact HB.out | apply below_alloc | apply pw_below_drewN | apply below_drew1) | exact HB.out)⟩
                        · rw [if_neg c102] at H
                          have c102b0 : (t434 == 2) = false := beq_eq_false_iff_ne.mpr c102
                          have c102b1 : (t434 != 2) = true := bne_iff_ne.mpr c102
                          obtain rfl := Option.some.inj H
                          go_wp2_with (first | ((with_reducible refine gate_callee (f := 34) rfl ?_); refine goesL_ (some 94) rfl rfl Try.func34 (by kernel_rfl) rfl #[.bool true, .int .i64 6, .int .i64 3] rfl (by (try simp only [List.map_toArray, List.map_cons, List.map_nil]); first | done | rfl | (simp only [List.length_drop, List.length_take]; rfl)) ?_; (with_reducible refine (headgatelaw32_misses.calls kj48 true 6 3 true _ A91.out).mono ?_); rintro e w111 ⟨rfl, hb⟩; refine ⟨_, rfl, ?_⟩; have n0_ := Aside0.mk (below_step (by repeat (first | (with_reducible first | exact HB.out | apply below_alloc | apply pw_below_drewN | apply below_drew1) | exact HB.out)) hb); clear HB; have HB := n0_; clear n0_; (try clear hb); (try clear hb2); (try clear hk); (try clear hi)) | (go_at_call 34; (with_reducible refine (headgatelaw32_misses.calls kj48 false 6 0 true _ A93.out).mono ?_); rintro e w112 ⟨rfl, hb⟩; have n0_ := Aside0.mk (below_step (by repeat (first | (with_reducible first | exact HB.out | apply below_alloc | apply pw_below_drewN | apply below_drew1) | exact HB.out)) hb); clear HB; have HB := n0_; clear n0_; (try clear hb); (try clear hb2); (try clear hk); (try clear hi)) | (go_at_call 34; (with_reducible refine (headgatelaw32_misses.calls kj48 false 4 5 true _ A95.out).mono ?_); rintro e w113 ⟨rfl, hb⟩; have n0_ := Aside0.mk (below_step (by repeat (first | (with_reducible first | exact HB.out | apply below_alloc | apply pw_below_drewN | apply below_drew1) | exact HB.out)) hb); clear HB; have HB := n0_; clear n0_; (try clear hb); (try clear hb2); (try clear hk); (try clear hi)) | (go_at_call 11; (with_reducible refine (pressure_Check.calls kj48 2 2 9 t432 _ A97.out).mono ?_); rintro e w114 ⟨rfl, hb⟩; have n0_ := Aside0.mk (below_step (by repeat (first | (with_reducible first | exact HB.out | apply below_alloc | apply pw_below_drewN | apply below_drew1) | exact HB.out)) hb); clear HB; have HB := n0_; clear n0_; (try clear hb); (try clear hb2); (try clear hk); (try clear hi)) | (go_at_call 11; (with_reducible refine (pressure_Check.calls kj48 (-1) 2 9 t433 _ A99.out).mono ?_); rintro e w115 ⟨rfl, hb⟩; have n0_ := Aside0.mk (below_step (by repeat (first | (with_reducible first | exact HB.out | apply below_alloc | apply pw_below_drewN | apply below_drew1) | exact HB.out)) hb); clear HB; have HB := n0_; clear n0_; (try clear hb); (try clear hb2); (try clear hk); (try clear hi)) | (go_at_call 11; (with_reducible refine (pressure_Check.calls kj48 2 5 257 t434 _ A101.out).mono ?_); rintro e w116 ⟨rfl, hb⟩; have n0_ := Aside0.mk (below_step (by repeat (first | (with_reducible first | exact HB.out | apply below_alloc | apply pw_below_drewN | apply below_drew1) | exact HB.out)) hb); clear HB; have HB := n0_; clear n0_; (try clear hb); (try clear hb2); (try clear hk); (try clear hi)))
                          go_ret
                          exact ⟨by first | rfl | (simp [errW_none, errW_some] <;> rfl) | (simp [*, errW_none, errW_some] <;> rfl), by repeat (first | (with_reducible first | exact HB.out | apply below_alloc | apply pw_below_drewN | apply below_drew1) | exact HB.out)⟩
                      · rw [if_neg c100] at H
                        have c100b0 : (t433 == 2) = false := beq_eq_false_iff_ne.mpr c100
                        have c100b1 : (t433 != 2) = true := bne_iff_ne.mpr c100
                        obtain rfl := Option.some.inj H
                        go_wp2_with (first | ((with_reducible refine gate_callee (f := 34) rfl ?_); refine goesL_ (some 94) rfl rfl Try.func34 (by kernel_rfl) rfl #[.bool true, .int .i64 6, .int .i64 3] rfl (by (try simp only [List.map_toArray, List.map_cons, List.map_nil]); first | done | rfl | (simp only [List.length_drop, List.length_take]; rfl)) ?_; (with_reducible refine (headgatelaw32_misses.calls kj48 true 6 3 true _ A91.out).mono ?_); rintro e w117 ⟨rfl, hb⟩; refine ⟨_, rfl, ?_⟩; have n0_ := Aside0.mk (below_step (by repeat (first | (with_reducible first | exact HB.out | apply below_alloc | apply pw_below_drewN | apply below_drew1) | exact HB.out)) hb); clear HB; have HB := n0_; clear n0_; (try clear hb); (try clear hb2); (try clear hk); (try clear hi)) | (go_at_call 34; (with_reducible refine (headgatelaw32_misses.calls kj48 false 6 0 true _ A93.out).mono ?_); rintro e w118 ⟨rfl, hb⟩; have n0_ := Aside0.mk (below_step (by repeat (first | (with_reducible first | exact HB.out | apply below_alloc | apply pw_below_drewN | apply below_drew1) | exact HB.out)) hb); clear HB; have HB := n0_; clear n0_; (try clear hb); (try clear hb2); (try clear hk); (try clear hi)) | (go_at_call 34; (with_reducible refine (headgatelaw32_misses.calls kj48 false 4 5 true _ A95.out).mono ?_); rintro e w119 ⟨rfl, hb⟩; have n0_ := Aside0.mk (below_step (by repeat (first | (with_reducible first | exact HB.out | apply below_alloc | apply pw_below_drewN | apply below_drew1) | exact HB.out)) hb); clear HB; have HB := n0_; clear n0_; (try clear hb); (try clear hb2); (try clear hk); (try clear hi)) | (go_at_call 11; (with_reducible refine (pressure_Check.calls kj48 2 2 9 t432 _ A97.out).mono ?_); rintro e w120 ⟨rfl, hb⟩; have n0_ := Aside0.mk (below_step (by repeat (first | (with_reducible first | exact HB.out | apply below_alloc | apply pw_below_drewN | apply below_drew1) | exact HB.out)) hb); clear HB; have HB := n0_; clear n0_; (try clear hb); (try clear hb2); (try clear hk); (try clear hi)) | (go_at_call 11; (with_reducible refine (pressure_Check.calls kj48 (-1) 2 9 t433 _ A99.out).mono ?_); rintro e w121 ⟨rfl, hb⟩; have n0_ := Aside0.mk (below_step (by repeat (first | (with_reducible first | exact HB.out | apply below_alloc | apply pw_below_drewN | apply below_drew1) | exact HB.out)) hb); clear HB; have HB := n0_; clear n0_; (try clear hb); (try clear hb2); (try clear hk); (try clear hi)))
                        go_ret
                        exact ⟨by first | rfl | (simp [errW_none, errW_some] <;> rfl) | (simp [*, errW_none, errW_some] <;> rfl), by repeat (first | (with_reducible first | exact HB.out | apply below_alloc | apply pw_below_drewN | apply below_drew1) | exact HB.out)⟩
                    · rw [if_neg c98] at H
                      have c98b0 : (t432 == 8) = false := beq_eq_false_iff_ne.mpr c98
                      have c98b1 : (t432 != 8) = true := bne_iff_ne.mpr c98
                      obtain rfl := Option.some.inj H
                      go_wp2_with (first | ((with_reducible refine gate_callee (f := 34) rfl ?_); refine goesL_ (some 94) rfl rfl Try.func34 (by kernel_rfl) rfl #[.bool true, .int .i64 6, .int .i64 3] rfl (by (try simp only [List.map_toArray, List.map_cons, List.map_nil]); first | done | rfl | (simp only [List.length_drop, List.length_take]; rfl)) ?_; (with_reducible refine (headgatelaw32_misses.calls kj48 true 6 3 true _ A91.out).mono ?_); rintro e w122 ⟨rfl, hb⟩; refine ⟨_, rfl, ?_⟩; have n0_ := Aside0.mk (below_step (by repeat (first | (with_reducible first | exact HB.out | apply below_alloc | apply pw_below_drewN | apply below_drew1) | exact HB.out)) hb); clear HB; have HB := n0_; clear n0_; (try clear hb); (try clear hb2); (try clear hk); (try clear hi)) | (go_at_call 34; (with_reducible refine (headgatelaw32_misses.calls kj48 false 6 0 true _ A93.out).mono ?_); rintro e w123 ⟨rfl, hb⟩; have n0_ := Aside0.mk (below_step (by repeat (first | (with_reducible first | exact HB.out | apply below_alloc | apply pw_below_drewN | apply below_drew1) | exact HB.out)) hb); clear HB; have HB := n0_; clear n0_; (try clear hb); (try clear hb2); (try clear hk); (try clear hi)) | (go_at_call 34; (with_reducible refine (headgatelaw32_misses.calls kj48 false 4 5 true _ A95.out).mono ?_); rintro e w124 ⟨rfl, hb⟩; have n0_ := Aside0.mk (below_step (by repeat (first | (with_reducible first | exact HB.out | apply below_alloc | apply pw_below_drewN | apply below_drew1) | exact HB.out)) hb); clear HB; have HB := n0_; clear n0_; (try clear hb); (try clear hb2); (try clear hk); (try clear hi)) | (go_at_call 11; (with_reducible refine (pressure_Check.calls kj48 2 2 9 t432 _ A97.out).mono ?_); rintro e w125 ⟨rfl, hb⟩; have n0_ := Aside0.mk (below_step (by repeat (first | (with_reducible first | exact HB.out | apply below_alloc | apply pw_below_drewN | apply below_drew1) | exact HB.out)) hb); clear HB; have HB := n0_; clear n0_; (try clear hb); (try clear hb2); (try clear hk); (try clear hi)))
                      go_ret
                      exact ⟨by first | rfl | (simp [errW_none, errW_some] <;> rfl) | (simp [*, errW_none, errW_some] <;> rfl), by repeat (first | (with_reducible first | exact HB.out | apply below_alloc | apply pw_below_drewN | apply below_drew1) | exact HB.out)⟩
                  · replace c96 := Bool.eq_false_iff.mpr c96
                    subst c96
                    have H1 : (some false) = some r := by rw [if_neg (show ¬ (false = true) by decide)] at H; exact H
                    clear H
                    have H := H1
                    clear H1
                    obtain rfl := Option.some.inj H
                    go_wp2_with (first | ((with_reducible refine gate_callee (f := 34) rfl ?_); refine goesL_ (some 94) rfl rfl Try.func34 (by kernel_rfl) rfl #[.bool true, .int .i64 6, .int .i64 3] rfl (by (try simp only [List.map_toArray, List.map_cons, List.map_nil]); first | done | rfl | (simp only [List.length_drop, List.length_take]; rfl)) ?_; (with_reducible refine (headgatelaw32_misses.calls kj48 true 6 3 true _ A91.out).mono ?_); rintro e w126 ⟨rfl, hb⟩; refine ⟨_, rfl, ?_⟩; have n0_ := Aside0.mk (below_step (by repeat (first | (with_reducible first | exact HB.out | apply below_alloc | apply pw_below_drewN | apply below_drew1) | exact HB.out)) hb); clear HB; have HB := n0_; clear n0_; (try clear hb); (try clear hb2); (try clear hk); (try clear hi)) | (go_at_call 34; (with_reducible refine (headgatelaw32_misses.calls kj48 false 6 0 true _ A93.out).mono ?_); rintro e w127 ⟨rfl, hb⟩; have n0_ := Aside0.mk (below_step (by repeat (first | (with_reducible first | exact HB.out | apply below_alloc | apply pw_below_drewN | apply below_drew1) | exact HB.out)) hb); clear HB; have HB := n0_; clear n0_; (try clear hb); (try clear hb2); (try clear hk); (try clear hi)) | (go_at_call 34; (with_reducible refine (headgatelaw32_misses.calls kj48 false 4 5 false _ A95.out).mono ?_); rintro e w128 ⟨rfl, hb⟩; have n0_ := Aside0.mk (below_step (by repeat (first | (with_reducible first | exact HB.out | apply below_alloc | apply pw_below_drewN | apply below_drew1) | exact HB.out)) hb); clear HB; have HB := n0_; clear n0_; (try clear hb); (try clear hb2); (try clear hk); (try clear hi)))
                    go_ret
                    exact ⟨by first | rfl | (simp [errW_none, errW_some] <;> rfl) | (simp [*, errW_none, errW_some] <;> rfl), by repeat (first | (with_reducible first | exact HB.out | apply below_alloc | apply pw_below_drewN | apply below_drew1) | exact HB.out)⟩
                · replace c94 := Bool.eq_false_iff.mpr c94
                  subst c94
                  have H1 : (some false) = some r := by rw [if_neg (show ¬ (false = true) by decide)] at H; exact H
                  clear H
                  have H := H1
                  clear H1
                  obtain rfl := Option.some.inj H
                  go_wp2_with (first | ((with_reducible refine gate_callee (f := 34) rfl ?_); refine goesL_ (some 94) rfl rfl Try.func34 (by kernel_rfl) rfl #[.bool true, .int .i64 6, .int .i64 3] rfl (by (try simp only [List.map_toArray, List.map_cons, List.map_nil]); first | done | rfl | (simp only [List.length_drop, List.length_take]; rfl)) ?_; (with_reducible refine (headgatelaw32_misses.calls kj48 true 6 3 true _ A91.out).mono ?_); rintro e w129 ⟨rfl, hb⟩; refine ⟨_, rfl, ?_⟩; have n0_ := Aside0.mk (below_step (by repeat (first | (with_reducible first | exact HB.out | apply below_alloc | apply pw_below_drewN | apply below_drew1) | exact HB.out)) hb); clear HB; have HB := n0_; clear n0_; (try clear hb); (try clear hb2); (try clear hk); (try clear hi)) | (go_at_call 34; (with_reducible refine (headgatelaw32_misses.calls kj48 false 6 0 false _ A93.out).mono ?_); rintro e w130 ⟨rfl, hb⟩; have n0_ := Aside0.mk (below_step (by repeat (first | (with_reducible first | exact HB.out | apply below_alloc | apply pw_below_drewN | apply below_drew1) | exact HB.out)) hb); clear HB; have HB := n0_; clear n0_; (try clear hb); (try clear hb2); (try clear hk); (try clear hi)))
                  go_ret
                  exact ⟨by first | rfl | (simp [errW_none, errW_some] <;> rfl) | (simp [*, errW_none, errW_some] <;> rfl), by repeat (first | (with_reducible first | exact HB.out | apply below_alloc | apply pw_below_drewN | apply below_drew1) | exact HB.out)⟩
              · replace c92 := Bool.eq_false_iff.mpr c92
                subst c92
                have H1 : (some false) = some r := by rw [if_neg (show ¬ (false = true) by decide)] at H; exact H
                clear H
                have H := H1
                clear H1
                obtain rfl := Option.some.inj H
                go_wp2_with (first | ((with_reducible refine gate_callee (f := 34) rfl ?_); refine goesL_ (some 94) rfl rfl Try.func34 (by kernel_rfl) rfl #[.bool true, .int .i64 6, .int .i64 3] rfl (by (try simp only [List.map_toArray, List.map_cons, List.map_nil]); first | done | rfl | (simp only [List.length_drop, List.length_take]; rfl)) ?_; (with_reducible refine (headgatelaw32_misses.calls kj48 true 6 3 false _ A91.out).mono ?_); rintro e w131 ⟨rfl, hb⟩; refine ⟨_, rfl, ?_⟩; have n0_ := Aside0.mk (below_step (by repeat (first | (with_reducible first | exact HB.out | apply below_alloc | apply pw_below_drewN | apply below_drew1) | exact HB.out)) hb); clear HB; have HB := n0_; clear n0_; (try clear hb); (try clear hb2); (try clear hk); (try clear hi)))
                go_ret
                exact ⟨by first | rfl | (simp [errW_none, errW_some] <;> rfl) | (simp [*, errW_none, errW_some] <;> rfl), by repeat (first | (with_reducible first | exact HB.out | apply below_alloc | apply pw_below_drewN | apply below_drew1) | exact HB.out)⟩

/-- THE ONE PURE STATEMENT of headgatelaw32_PressureKnown: yours. -/
def headgatelaw32_PressureKnown.Pure : Prop := ∃ k, headgatelaw32_PressureKnown.f k  = some true
theorem headgatelaw32_PressureKnown.walk (P : headgatelaw32_PressureKnown.Pure)  (w : World)  :
    Calls Try.prog 8 #[] w fun e w' => e = .returned (.bool true) ∧ Below w.heap.size w w' := by
  obtain ⟨k, h⟩ := P  
  refine (headgatelaw32_PressureKnown.calls k  true w h).mono ?_
  rintro e w' ⟨rfl, hd⟩
  exact ⟨rfl, hd⟩

end Go.Proofs.Ytfjfmhkifaiakaa.PA
