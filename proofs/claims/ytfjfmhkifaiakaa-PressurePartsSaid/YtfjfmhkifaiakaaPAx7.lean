-- written by a program of this seat's prover out of the translation; Lean checks it
import Derived.Test.YtfjfmhkifaiakaaPAx0
import Derived.Test.YtfjfmhkifaiakaaPAx2
import Derived.Test.YtfjfmhkifaiakaaPAx3
import Derived.Test.YtfjfmhkifaiakaaPAx4
import Derived.Test.YtfjfmhkifaiakaaPAx5
import Derived.Test.YtfjfmhkifaiakaaPAx6
namespace Go.Proofs.Ytfjfmhkifaiakaa.PA
open Go.RowKit Go.Proofs.YtfjfmhkifaiakaaW.PrintWords Go.Proofs.YtfjfmhkifaiakaaW.PrintLast Go.Proofs.YtfjfmhkifaiakaaW.PrintMore
attribute [local go_sem] max2_int min2_int max_two min_two max_three min_three max_four min_four   -- for this text's walks alone
set_option linter.unusedVariables false
set_option linter.unusedSimpArgs false

/-! ### headgatelaw32_PressureMore: function 4 -/
mutual
def headgatelaw32_PressureMore.j0 : Nat → Int → Int → Bool → Int → Int → Int → Option (Bool)
  | 0, _, _, _, _, _, _ => none
  | k + 1, x10, x11, x62, x208000, x208001, x208002 => if x62 = true then (some false) else (headgatelaw32_PressureMore.l0 k x10 x11 0 x208000 x208001 x208002)
def headgatelaw32_PressureMore.l0 : Nat → Int → Int → Int → Int → Int → Int → Option (Bool)
  | 0, _, _, _, _, _, _ => none
  | k + 1, x10, x11, x16, x208000, x208001, x208002 => if x16 < 2 then ((pressure_Next.f k x208000 x208001 x208002 (x16 == 1) x10).bind fun bt213 => ((pressure_Next.f k x208000 x208001 x208002 (x16 == 1) x11).bind fun bt215 => ((pressure_Missing.f k x208000 x208001 x208002 (x16 == 1) x10).bind fun bt217 => (if bt213.2 = 0 then (if bt215.2 = 0 then (if bt217.2 = 0 then (if bt215.1 = true then (if bt213.1 = true then (if ((bt217.1 == 0) == bt213.1) = true then (headgatelaw32_PressureMore.j2 k x10 x11 x16 bt213.1 bt217.1 true x208000 x208001 x208002) else (if bt217.1 < 0 then (headgatelaw32_PressureMore.j2 k x10 x11 x16 bt213.1 bt217.1 true x208000 x208001 x208002) else (headgatelaw32_PressureMore.j2 k x10 x11 x16 bt213.1 bt217.1 (decide (bt217.1 > x208002)) x208000 x208001 x208002))) else (headgatelaw32_PressureMore.j2 k x10 x11 x16 bt213.1 bt217.1 true x208000 x208001 x208002)) else (if ((bt217.1 == 0) == bt213.1) = true then (headgatelaw32_PressureMore.j2 k x10 x11 x16 bt213.1 bt217.1 true x208000 x208001 x208002) else (if bt217.1 < 0 then (headgatelaw32_PressureMore.j2 k x10 x11 x16 bt213.1 bt217.1 true x208000 x208001 x208002) else (headgatelaw32_PressureMore.j2 k x10 x11 x16 bt213.1 bt217.1 (decide (bt217.1 > x208002)) x208000 x208001 x208002)))) else (headgatelaw32_PressureMore.j2 k x10 x11 x16 bt213.1 bt217.1 true x208000 x208001 x208002)) else (headgatelaw32_PressureMore.j2 k x10 x11 x16 bt213.1 bt217.1 true x208000 x208001 x208002)) else (headgatelaw32_PressureMore.j2 k x10 x11 x16 bt213.1 bt217.1 true x208000 x208001 x208002))))) else ((headgatelaw32_awake.f k).bind fun t212 => (some t212))
def headgatelaw32_PressureMore.j2 : Nat → Int → Int → Int → Bool → Int → Bool → Int → Int → Int → Option (Bool)
  | 0, _, _, _, _, _, _, _, _, _ => none
  | k + 1, x10, x11, x16, x18, x22, x122, x208000, x208001, x208002 => if x122 = true then (some false) else (if x18 = true then ((pressure_Next.f k x208000 x208001 x208002 true (wrap64 (x10 + x22))).bind fun bt219 => ((pressure_Next.f k x208000 x208001 x208002 true (wrap64 ((wrap64 (x10 + x22)) - 1))).bind fun bt221 => (if bt219.2 = 0 then (if bt221.2 = 0 then (if bt219.1 = true then (some false) else (if bt221.1 = true then (headgatelaw32_PressureMore.l0 k x10 x11 (wrap64 (x16 + 1)) x208000 x208001 x208002) else (some false))) else (some false)) else (some false)))) else (headgatelaw32_PressureMore.l0 k x10 x11 (wrap64 (x16 + 1)) x208000 x208001 x208002))
end
def headgatelaw32_PressureMore.f (k : Nat) (a0 : Int) (a1 : Int) (a2 : Int) : Option (Bool) := (headgatelaw32_made.f a0).bind fun bt202 => ((headgatekit_Mod.f a1 40).bind fun t205 => ((headgatekit_Mod.f a2 40).bind fun t206 => ((pressure_Level.f k bt202.1 bt202.2.1 bt202.2.2 (mn t205 t206)).bind fun bt208 => ((pressure_Level.f k bt202.1 bt202.2.1 bt202.2.2 (mx t205 t206)).bind fun bt210 => (if bt208.2 = 0 then (if bt210.2 = 0 then (headgatelaw32_PressureMore.j0 k (mn t205 t206) (mx t205 t206) (decide (bt210.1 > bt208.1)) bt202.1 bt202.2.1 bt202.2.2) else (headgatelaw32_PressureMore.j0 k (mn t205 t206) (mx t205 t206) true bt202.1 bt202.2.1 bt202.2.2)) else (headgatelaw32_PressureMore.j0 k (mn t205 t206) (mx t205 t206) true bt202.1 bt202.2.1 bt202.2.2))))))
theorem headgatelaw32_PressureMore.mono_l : ∀ k, (∀ y0 y1 y2 y3 y4 y5, LeO (headgatelaw32_PressureMore.j0 k y0 y1 y2 y3 y4 y5) (headgatelaw32_PressureMore.j0 (k + 1) y0 y1 y2 y3 y4 y5)) ∧ (∀ y0 y1 y2 y3 y4 y5, LeO (headgatelaw32_PressureMore.l0 k y0 y1 y2 y3 y4 y5) (headgatelaw32_PressureMore.l0 (k + 1) y0 y1 y2 y3 y4 y5)) ∧ (∀ y0 y1 y2 y3 y4 y5 y6 y7 y8, LeO (headgatelaw32_PressureMore.j2 k y0 y1 y2 y3 y4 y5 y6 y7 y8) (headgatelaw32_PressureMore.j2 (k + 1) y0 y1 y2 y3 y4 y5 y6 y7 y8))
  | 0 => ⟨fun _ _ _ _ _ _ r h => by simp [headgatelaw32_PressureMore.j0] at h, fun _ _ _ _ _ _ r h => by simp [headgatelaw32_PressureMore.l0] at h, fun _ _ _ _ _ _ _ _ _ r h => by simp [headgatelaw32_PressureMore.j2] at h⟩
  | k + 1 => by
    obtain ⟨ih0, ih1, ih2⟩ := headgatelaw32_PressureMore.mono_l k
    refine ⟨?_, ?_, ?_⟩
    · intro y0 y1 y2 y3 y4 y5
      unfold headgatelaw32_PressureMore.j0
      repeat' first
      | (with_reducible exact ih0 _ _ _ _ _ _)
      | (with_reducible exact ih1 _ _ _ _ _ _)
      | (with_reducible exact ih2 _ _ _ _ _ _ _ _ _)
      | (with_reducible exact headgatelaw32_awake.mono _)
      | (with_reducible exact pressure_Level.mono _ _ _ _ _)
      | (with_reducible exact pressure_Missing.mono _ _ _ _ _ _)
      | (with_reducible exact pressure_Next.mono _ _ _ _ _ _)
      | (with_reducible exact LeO.refl _)
      | (with_reducible exact LeO.none _)
      | (with_reducible refine LeO.ite ?_ ?_)
      | (with_reducible refine LeO.bind ?_ (fun _ => ?_))
      | exact ih0 _ _ _ _ _ _
      | exact ih1 _ _ _ _ _ _
      | exact ih2 _ _ _ _ _ _ _ _ _
      | exact headgatelaw32_awake.mono _
      | exact pressure_Level.mono _ _ _ _ _
      | exact pressure_Missing.mono _ _ _ _ _ _
      | exact pressure_Next.mono _ _ _ _ _ _
      | exact LeO.none _
      | refine LeO.ite ?_ ?_
      | refine LeO.bind ?_ (fun _ => ?_)
    · intro y0 y1 y2 y3 y4 y5
      unfold headgatelaw32_PressureMore.l0
      repeat' first
      | (with_reducible exact ih0 _ _ _ _ _ _)
      | (with_reducible exact ih1 _ _ _ _ _ _)
      | (with_reducible exact ih2 _ _ _ _ _ _ _ _ _)
      | (with_reducible exact headgatelaw32_awake.mono _)
      | (with_reducible exact pressure_Level.mono _ _ _ _ _)
      | (with_reducible exact pressure_Missing.mono _ _ _ _ _ _)
      | (with_reducible exact pressure_Next.mono _ _ _ _ _ _)
      | (with_reducible exact LeO.refl _)
      | (with_reducible exact LeO.none _)
      | (with_reducible refine LeO.ite ?_ ?_)
      | (with_reducible refine LeO.bind ?_ (fun _ => ?_))
      | exact ih0 _ _ _ _ _ _
      | exact ih1 _ _ _ _ _ _
      | exact ih2 _ _ _ _ _ _ _ _ _
      | exact headgatelaw32_awake.mono _
      | exact pressure_Level.mono _ _ _ _ _
      | exact pressure_Missing.mono _ _ _ _ _ _
      | exact pressure_Next.mono _ _ _ _ _ _
      | exact LeO.none _
      | refine LeO.ite ?_ ?_
      | refine LeO.bind ?_ (fun _ => ?_)
    · intro y0 y1 y2 y3 y4 y5 y6 y7 y8
      unfold headgatelaw32_PressureMore.j2
      repeat' first
      | (with_reducible exact ih0 _ _ _ _ _ _)
      | (with_reducible exact ih1 _ _ _ _ _ _)
      | (with_reducible exact ih2 _ _ _ _ _ _ _ _ _)
      | (with_reducible exact headgatelaw32_awake.mono _)
      | (with_reducible exact pressure_Level.mono _ _ _ _ _)
      | (with_reducible exact pressure_Missing.mono _ _ _ _ _ _)
      | (with_reducible exact pressure_Next.mono _ _ _ _ _ _)
      | (with_reducible exact LeO.refl _)
      | (with_reducible exact LeO.none _)
      | (with_reducible refine LeO.ite ?_ ?_)
      | (with_reducible refine LeO.bind ?_ (fun _ => ?_))
      | exact ih0 _ _ _ _ _ _
      | exact ih1 _ _ _ _ _ _
      | exact ih2 _ _ _ _ _ _ _ _ _
      | exact headgatelaw32_awake.mono _
      | exact pressure_Level.mono _ _ _ _ _
      | exact pressure_Missing.mono _ _ _ _ _ _
      | exact pressure_Next.mono _ _ _ _ _ _
      | exact LeO.none _
      | refine LeO.ite ?_ ?_
      | refine LeO.bind ?_ (fun _ => ?_)
theorem headgatelaw32_PressureMore.mono : ∀ a0 a1 a2 k, LeO (headgatelaw32_PressureMore.f k a0 a1 a2) (headgatelaw32_PressureMore.f (k + 1) a0 a1 a2) := by
  intro a0 a1 a2 k
  obtain ⟨ih0, ih1, ih2⟩ := headgatelaw32_PressureMore.mono_l k
  unfold headgatelaw32_PressureMore.f
  repeat' first
      | (with_reducible exact ih0 _ _ _ _ _ _)
      | (with_reducible exact ih1 _ _ _ _ _ _)
      | (with_reducible exact ih2 _ _ _ _ _ _ _ _ _)
      | (with_reducible exact headgatelaw32_awake.mono _)
      | (with_reducible exact pressure_Level.mono _ _ _ _ _)
      | (with_reducible exact pressure_Missing.mono _ _ _ _ _ _)
      | (with_reducible exact pressure_Next.mono _ _ _ _ _ _)
      | (with_reducible exact LeO.refl _)
      | (with_reducible exact LeO.none _)
      | (with_reducible refine LeO.ite ?_ ?_)
      | (with_reducible refine LeO.bind ?_ (fun _ => ?_))
      | exact ih0 _ _ _ _ _ _
      | exact ih1 _ _ _ _ _ _
      | exact ih2 _ _ _ _ _ _ _ _ _
      | exact headgatelaw32_awake.mono _
      | exact pressure_Level.mono _ _ _ _ _
      | exact pressure_Missing.mono _ _ _ _ _ _
      | exact pressure_Next.mono _ _ _ _ _ _
      | exact LeO.none _
      | refine LeO.ite ?_ ?_
      | refine LeO.bind ?_ (fun _ => ?_)
set_option maxHeartbeats 8000000 in
set_option maxRecDepth 100000 in
theorem headgatelaw32_PressureMore.calls (k : Nat) (a0 : Int) (a1 : Int) (a2 : Int) (r : Bool) (w : World) (h : headgatelaw32_PressureMore.f k a0 a1 a2 = some r) :
    Calls Try.prog 4 #[.int .i64 a0, .int .i64 a1, .int .i64 a2] w fun e w' => e = .returned (.bool r) ∧ Below w.heap.size w w' := by
  have hu23 := Try.underlying23
  have HB := Aside0.mk (Below.refl w.heap.size w)
  have H : ((headgatelaw32_made.f a0).bind fun bt202 => ((headgatekit_Mod.f a1 40).bind fun t205 => ((headgatekit_Mod.f a2 40).bind fun t206 => ((pressure_Level.f k bt202.1 bt202.2.1 bt202.2.2 (mn t205 t206)).bind fun bt208 => ((pressure_Level.f k bt202.1 bt202.2.1 bt202.2.2 (mx t205 t206)).bind fun bt210 => (if bt208.2 = 0 then (if bt210.2 = 0 then (headgatelaw32_PressureMore.j0 k (mn t205 t206) (mx t205 t206) (decide (bt210.1 > bt208.1)) bt202.1 bt202.2.1 bt202.2.2) else (headgatelaw32_PressureMore.j0 k (mn t205 t206) (mx t205 t206) true bt202.1 bt202.2.1 bt202.2.2)) else (headgatelaw32_PressureMore.j0 k (mn t205 t206) (mx t205 t206) true bt202.1 bt202.2.1 bt202.2.2))))))) = some r := h
  clear h
  replace H := Option.bind_eq_some_iff.mp H
  obtain ⟨⟨t202, t203, t204⟩, A40, H⟩ := H
  replace H : ((headgatekit_Mod.f a1 40).bind fun t205 => ((headgatekit_Mod.f a2 40).bind fun t206 => ((pressure_Level.f k t202 t203 t204 (mn t205 t206)).bind fun bt208 => ((pressure_Level.f k t202 t203 t204 (mx t205 t206)).bind fun bt210 => (if bt208.2 = 0 then (if bt210.2 = 0 then (headgatelaw32_PressureMore.j0 k (mn t205 t206) (mx t205 t206) (decide (bt210.1 > bt208.1)) t202 t203 t204) else (headgatelaw32_PressureMore.j0 k (mn t205 t206) (mx t205 t206) true t202 t203 t204)) else (headgatelaw32_PressureMore.j0 k (mn t205 t206) (mx t205 t206) true t202 t203 t204)))))) = some r := H
  have A4 := Aside0.mk A40
  clear A40
  replace H := Option.bind_eq_some_iff.mp H
  obtain ⟨t205, A50, H⟩ := H
  replace H : ((headgatekit_Mod.f a2 40).bind fun t206 => ((pressure_Level.f k t202 t203 t204 (mn t205 t206)).bind fun bt208 => ((pressure_Level.f k t202 t203 t204 (mx t205 t206)).bind fun bt210 => (if bt208.2 = 0 then (if bt210.2 = 0 then (headgatelaw32_PressureMore.j0 k (mn t205 t206) (mx t205 t206) (decide (bt210.1 > bt208.1)) t202 t203 t204) else (headgatelaw32_PressureMore.j0 k (mn t205 t206) (mx t205 t206) true t202 t203 t204)) else (headgatelaw32_PressureMore.j0 k (mn t205 t206) (mx t205 t206) true t202 t203 t204))))) = some r := H
  have A5 := Aside0.mk A50
  clear A50
  replace H := Option.bind_eq_some_iff.mp H
  obtain ⟨t206, A60, H⟩ := H
  replace H : ((pressure_Level.f k t202 t203 t204 (mn t205 t206)).bind fun bt208 => ((pressure_Level.f k t202 t203 t204 (mx t205 t206)).bind fun bt210 => (if bt208.2 = 0 then (if bt210.2 = 0 then (headgatelaw32_PressureMore.j0 k (mn t205 t206) (mx t205 t206) (decide (bt210.1 > bt208.1)) t202 t203 t204) else (headgatelaw32_PressureMore.j0 k (mn t205 t206) (mx t205 t206) true t202 t203 t204)) else (headgatelaw32_PressureMore.j0 k (mn t205 t206) (mx t205 t206) true t202 t203 t204)))) = some r := H
  have A6 := Aside0.mk A60
  clear A60
  obtain ⟨ji7, hji7⟩ : ∃ j_ : Int, (mn t205 t206) = j_ := ⟨_, rfl⟩
  replace H : ((pressure_Level.f k t202 t203 t204 (ji7)).bind fun bt208 => ((pressure_Level.f k t202 t203 t204 (mx t205 t206)).bind fun bt210 => (if bt208.2 = 0 then (if bt210.2 = 0 then (headgatelaw32_PressureMore.j0 k ji7 (mx t205 t206) (decide (bt210.1 > bt208.1)) t202 t203 t204) else (headgatelaw32_PressureMore.j0 k ji7 (mx t205 t206) true t202 t203 t204)) else (headgatelaw32_PressureMore.j0 k ji7 (mx t205 t206) true t202 t203 t204)))) = some r := by first | (rw [hji7] at H; exact H) | (simp only [hji7] at H ⊢; exact H)
  (try rw [hji7] at A4)
  (try rw [hji7] at A5)
  (try rw [hji7] at A6)
  have hji7_ : (if t206 < t205 then t206 else t205) = ji7 := hji7
  obtain ⟨ji8, hji8⟩ : ∃ j_ : Int, (mx t205 t206) = j_ := ⟨_, rfl⟩
  replace H : ((pressure_Level.f k t202 t203 t204 (ji7)).bind fun bt208 => ((pressure_Level.f k t202 t203 t204 (ji8)).bind fun bt210 => (if bt208.2 = 0 then (if bt210.2 = 0 then (headgatelaw32_PressureMore.j0 k ji7 ji8 (decide (bt210.1 > bt208.1)) t202 t203 t204) else (headgatelaw32_PressureMore.j0 k ji7 ji8 true t202 t203 t204)) else (headgatelaw32_PressureMore.j0 k ji7 ji8 true t202 t203 t204)))) = some r := by first | (rw [hji8] at H; exact H) | (simp only [hji8] at H ⊢; exact H)
  (try rw [hji8] at A4)
  (try rw [hji8] at A5)
  (try rw [hji8] at A6)
  have hji8_ : (if t205 < t206 then t206 else t205) = ji8 := hji8
  replace H := Option.bind_eq_some_iff.mp H
  obtain ⟨⟨t208, t209⟩, A90, H⟩ := H
  replace H : ((pressure_Level.f k t202 t203 t204 (ji8)).bind fun bt210 => (if t209 = 0 then (if bt210.2 = 0 then (headgatelaw32_PressureMore.j0 k ji7 ji8 (decide (bt210.1 > t208)) t202 t203 t204) else (headgatelaw32_PressureMore.j0 k ji7 ji8 true t202 t203 t204)) else (headgatelaw32_PressureMore.j0 k ji7 ji8 true t202 t203 t204))) = some r := H
  have A9 := Aside0.mk A90
  clear A90
  replace H := Option.bind_eq_some_iff.mp H
  obtain ⟨⟨t210, t211⟩, A100, H⟩ := H
  replace H : (if t209 = 0 then (if t211 = 0 then (headgatelaw32_PressureMore.j0 k ji7 ji8 (decide (t210 > t208)) t202 t203 t204) else (headgatelaw32_PressureMore.j0 k ji7 ji8 true t202 t203 t204)) else (headgatelaw32_PressureMore.j0 k ji7 ji8 true t202 t203 t204)) = some r := H
  have A10 := Aside0.mk A100
  clear A100
  have HC11 := Aside0.mk H
  clear H
  go_enter Try.func4, Try.ntmps4
  go_upto_region 5 with (first | ((with_reducible refine gate_callee (f := 18) rfl ?_); refine goesL_ (some 29) rfl rfl Try.func18 (by kernel_rfl) rfl #[.int .i64 a0] rfl (by (try simp only [List.map_toArray, List.map_cons, List.map_nil]); first | done | rfl | (simp only [List.length_drop, List.length_take]; rfl)) ?_; (with_reducible refine (headgatelaw32_made.calls a0 t202 t203 t204 _ A4.out).mono ?_); rintro e w12 ⟨rfl, hb⟩; refine ⟨_, rfl, ?_⟩; have n0_ := Aside0.mk (below_step (by repeat (first | (with_reducible first | exact HB.out | apply below_alloc | apply pw_below_drewN | apply below_drew1) | exact HB.out)) hb); clear HB; have HB := n0_; clear n0_; (try clear hb); (try clear hb2); (try clear hk); (try clear hi)) | ((with_reducible refine gate_callee (f := 19) rfl ?_); refine goesL_ (some 31) rfl rfl Try.func19 (by kernel_rfl) rfl #[.int .i64 a1, .int .i64 40] rfl (by (try simp only [List.map_toArray, List.map_cons, List.map_nil]); first | done | rfl | (simp only [List.length_drop, List.length_take]; rfl)) ?_; (with_reducible refine (headgatekit_Mod.calls a1 40 t205 _ A5.out).mono ?_); rintro e w' ⟨rfl, ⟨nd, rfl⟩⟩; refine ⟨_, rfl, ?_⟩; (try (rw [drewN_self w12]; generalize hq_ : World.drewN w12 _ = w12; have n0_ : Aside0 (Below w.heap.size w w12) := ⟨by rw [← hq_]; exact (by repeat (first | (with_reducible first | exact HB.out | apply below_alloc | apply pw_below_drewN | apply below_drew1) | exact HB.out))⟩; clear HB hq_; have HB := n0_; clear n0_))) | ((with_reducible refine gate_callee (f := 19) rfl ?_); refine goesL_ (some 33) rfl rfl Try.func19 (by kernel_rfl) rfl #[.int .i64 a2, .int .i64 40] rfl (by (try simp only [List.map_toArray, List.map_cons, List.map_nil]); first | done | rfl | (simp only [List.length_drop, List.length_take]; rfl)) ?_; (with_reducible refine (headgatekit_Mod.calls a2 40 t206 _ A6.out).mono ?_); rintro e w' ⟨rfl, ⟨nd, rfl⟩⟩; refine ⟨_, rfl, ?_⟩; (try (rw [drewN_self w12]; generalize hq_ : World.drewN w12 _ = w12; have n0_ : Aside0 (Below w.heap.size w w12) := ⟨by rw [← hq_]; exact (by repeat (first | (with_reducible first | exact HB.out | apply below_alloc | apply pw_below_drewN | apply below_drew1) | exact HB.out))⟩; clear HB hq_; have HB := n0_; clear n0_))) | ((with_reducible refine gate_dst (N := 7) rfl ?_); refine box_event ?hg (N := 7) ?hd (cs := #[.int .i64 0, .int .i64 0, .int .i64 0]) (t := 23) ?hr ?_; (case hd => rfl); (case hg => rfl); (case hr => first | (go_simp; done) | (go_simp; rfl)); intro gb207 hg w13 hbox hb; have n0_ := Aside0.mk (below_step (by repeat (first | (with_reducible first | exact HB.out | apply below_alloc | apply pw_below_drewN | apply below_drew1) | exact HB.out)) hb); have n1_ := Aside0.mk (hbox); have n2_ := Aside0.mk ((by rw [hg]; exact (below_size (by repeat (first | (with_reducible first | exact HB.out | apply below_alloc | apply pw_below_drewN | apply below_drew1) | exact HB.out))) : w.heap.size ≤ gb207)); have n3_ := Aside0.mk ((by rw [hg]; exact (below_size (by repeat (first | (with_reducible first | exact HB.out | apply below_alloc | apply pw_below_drewN | apply below_drew1) | exact HB.out))) : w.heap.size ≤ gb207)); clear HB; have HB := n0_; have BK207 := n1_; have GW207 := n2_; have GE207 := n3_; clear n0_ n1_ n2_ n3_; clear hb hbox hg; have hcz14_0 : w13.cell? ⟨gb207, 0, none⟩ = some (.int .i64 0) := (blk_cell BK207.out 0).trans rfl; have hcz14_1 : w13.cell? ⟨gb207, 1, none⟩ = some (.int .i64 0) := (blk_cell BK207.out 1).trans rfl; have hcz14_2 : w13.cell? ⟨gb207, 2, none⟩ = some (.int .i64 0) := (blk_cell BK207.out 2).trans rfl; have hfz14_0 := blk_frozen BK207.out 0; have hfz14_1 := blk_frozen BK207.out 1; have hfz14_2 := blk_frozen BK207.out 2) | ((with_reducible refine gate_callee (f := 9) rfl ?_); refine goesL_ (some 43) rfl rfl Try.func9 (by kernel_rfl) rfl #[.agg #[.int .i64 t202, .int .i64 t203, .int .i64 t204], .int .i64 ji7] rfl (by (try simp only [List.map_toArray, List.map_cons, List.map_nil]); first | done | (simp only [hji7]; rfl) | rfl | (simp only [List.length_drop, List.length_take]; rfl)) ?_; (with_reducible refine (pressure_Level.calls k t202 t203 t204 ji7 t208 t209 _ A9.out).mono ?_); rintro e w15 ⟨rfl, hb⟩; refine ⟨_, rfl, ?_⟩; have n0_ := Aside0.mk (blk_below (g := gb207) (o := .cells #[.int .i64 t202, .int .i64 t203, .int .i64 t204] 23 (0, 0)) (by (with_reducible repeat (first | refine blk_drewN ?_ _ | refine blk_drew ?_ | refine blk_alloc ?_ _)); refine blk_put (cs := #[.int .i64 t202, .int .i64 t203, .int .i64 0]) ?_ 2 _ rfl; (with_reducible repeat (first | refine blk_drewN ?_ _ | refine blk_drew ?_ | refine blk_alloc ?_ _)); refine blk_put (cs := #[.int .i64 t202, .int .i64 0, .int .i64 0]) ?_ 1 _ rfl; (with_reducible repeat (first | refine blk_drewN ?_ _ | refine blk_drew ?_ | refine blk_alloc ?_ _)); refine blk_put (cs := #[.int .i64 0, .int .i64 0, .int .i64 0]) ?_ 0 _ rfl; (with_reducible repeat (first | refine blk_drewN ?_ _ | refine blk_drew ?_ | refine blk_alloc ?_ _)); exact BK207.out) hb); have n1_ := Aside0.mk (below_step (by repeat (first | (with_reducible first | exact HB.out | apply below_alloc | apply pw_below_drewN | apply below_drew1 | refine below_set ?_ GE207.out) | exact HB.out)) hb); clear BK207; clear HB; have BK207 := n0_; have HB := n1_; clear n0_ n1_; (try clear hb); (try clear hb2); (try clear hk); (try clear hi); have hcz16_0 : w15.cell? ⟨gb207, 0, none⟩ = some (.int .i64 t202) := (blk_cell BK207.out 0).trans rfl; have hcz16_1 : w15.cell? ⟨gb207, 1, none⟩ = some (.int .i64 t203) := (blk_cell BK207.out 1).trans rfl; have hcz16_2 : w15.cell? ⟨gb207, 2, none⟩ = some (.int .i64 t204) := (blk_cell BK207.out 2).trans rfl; have hfz16_0 := blk_frozen BK207.out 0; have hfz16_1 := blk_frozen BK207.out 1; have hfz16_2 := blk_frozen BK207.out 2) | ((with_reducible refine gate_callee (f := 9) rfl ?_); refine goesL_ (some 49) rfl rfl Try.func9 (by kernel_rfl) rfl #[.agg #[.int .i64 t202, .int .i64 t203, .int .i64 t204], .int .i64 ji8] rfl (by (try simp only [List.map_toArray, List.map_cons, List.map_nil]); first | done | (simp only [hji8]; rfl) | rfl | (simp only [List.length_drop, List.length_take]; rfl)) ?_; (with_reducible refine (pressure_Level.calls k t202 t203 t204 ji8 t210 t211 _ A10.out).mono ?_); rintro e w17 ⟨rfl, hb⟩; refine ⟨_, rfl, ?_⟩; have n0_ := Aside0.mk (blk_below (g := gb207) (o := .cells #[.int .i64 t202, .int .i64 t203, .int .i64 t204] 23 (0, 0)) (by (with_reducible repeat (first | refine blk_drewN ?_ _ | refine blk_drew ?_ | refine blk_alloc ?_ _)); exact BK207.out) hb); have n1_ := Aside0.mk (below_step (by repeat (first | (with_reducible first | exact HB.out | apply below_alloc | apply pw_below_drewN | apply below_drew1 | refine below_set ?_ GE207.out) | exact HB.out)) hb); clear BK207; clear HB; have BK207 := n0_; have HB := n1_; clear n0_ n1_; (try clear hb); (try clear hb2); (try clear hk); (try clear hi)))
  (try simp only [Act.put, List.setIfInBounds_toArray, List.set_cons_zero, List.set_cons_succ])
  go_cut [62] (fun v62 wc => ∃ (kq : Nat) (x62_10 : Bool), v62 = .bool x62_10 ∧ Aside0 (headgatelaw32_PressureMore.j0 kq ji7 ji8 x62_10 t202 t203 t204 = some r) ∧ Aside0 (kq ≤ k) ∧ Aside0 (wc.heap[gb207]? = some (.cells #[.int .i64 t202, .int .i64 t203, .int .i64 t204] 23 (0, 0))) ∧ Aside0 (Below w.heap.size w wc))
  case first =>
    have H := HC11.out
    clear HC11
    by_cases c18 : t209 = 0
    · rw [if_pos c18] at H
      have c18b0 : (t209 == 0) = true := beq_iff_eq.mpr c18
      have c18b1 : (t209 != 0) = false := bne_eq_false_iff_eq.mpr c18
      clear c18
      (first | rw [c18b0] | (simp only [i64_w, i32_w]; rw [c18b0]) | skip)
      by_cases c19 : t211 = 0
      · rw [if_pos c19] at H
        have c19b0 : (t211 == 0) = true := beq_iff_eq.mpr c19
        have c19b1 : (t211 != 0) = false := bne_eq_false_iff_eq.mpr c19
        clear c19
        have H' := Aside0.mk H
        clear H
        go_wp2
        go_meet
        case rel => exact ⟨_, (decide (t210 > t208)), (by first | rfl | (simp; done) | (simp [*]; done)), H', ⟨by first | omega | exact Nat.le_refl _⟩, ⟨by (with_reducible repeat (first | refine blk_drewN ?_ _ | refine blk_drew ?_ | refine blk_alloc ?_ _)); exact BK207.out⟩, ⟨by repeat (first | (with_reducible first | exact HB.out | apply below_alloc | apply pw_below_drewN | apply below_drew1 | refine below_set ?_ GE207.out) | exact HB.out)⟩⟩
      · rw [if_neg c19] at H
        have c19b0 : (t211 == 0) = false := beq_eq_false_iff_ne.mpr c19
        have c19b1 : (t211 != 0) = true := bne_iff_ne.mpr c19
        have H' := Aside0.mk H
        clear H
        go_wp2
        go_meet
        case rel => exact ⟨_, (true), (by first | rfl | (simp; done) | (simp [*]; done)), H', ⟨by first | omega | exact Nat.le_refl _⟩, ⟨by (with_reducible repeat (first | refine blk_drewN ?_ _ | refine blk_drew ?_ | refine blk_alloc ?_ _)); exact BK207.out⟩, ⟨by repeat (first | (with_reducible first | exact HB.out | apply below_alloc | apply pw_below_drewN | apply below_drew1 | refine below_set ?_ GE207.out) | exact HB.out)⟩⟩
    · rw [if_neg c18] at H
      have c18b0 : (t209 == 0) = false := beq_eq_false_iff_ne.mpr c18
      have c18b1 : (t209 != 0) = true := bne_iff_ne.mpr c18
      (first | rw [c18b0] | (simp only [i64_w, i32_w]; rw [c18b0]) | skip)
      have H' := Aside0.mk H
      clear H
      go_wp2
      go_meet
      case rel => exact ⟨_, (true), (by first | rfl | (simp; done) | (simp [*]; done)), H', ⟨by first | omega | exact Nat.le_refl _⟩, ⟨by (with_reducible repeat (first | refine blk_drewN ?_ _ | refine blk_drew ?_ | refine blk_alloc ?_ _)); exact BK207.out⟩, ⟨by repeat (first | (with_reducible first | exact HB.out | apply below_alloc | apply pw_below_drewN | apply below_drew1 | refine below_set ?_ GE207.out) | exact HB.out)⟩⟩
  case rest =>
    clear HC11
    try clear c1
    try clear p2
    try clear c4
    try clear c9
    try clear c18
    try clear c18b0
    try clear c18b1
    try clear c19
    try clear c19b0
    try clear c19b1
    try clear hcz14_0
    try clear hcz14_1
    try clear hcz14_2
    try clear hcz16_0
    try clear hcz16_1
    try clear hcz16_2
    try clear hfz14_0
    try clear hfz14_1
    try clear hfz14_2
    try clear hfz16_0
    try clear hfz16_1
    try clear hfz16_2
    obtain ⟨kq, x62_10, rfl, HA, HJ10, BK207, HB⟩ := hcut
    cases kq with
    | zero => exact absurd HA.out (by simp [headgatelaw32_PressureMore.j0])
    | succ kj10 =>
      have H := HA.out
      clear HA
      simp only [headgatelaw32_PressureMore.j0] at H
      by_cases c20 : x62_10 = true
      · subst c20
        have H1 : (some false) = some r := by rw [if_pos rfl] at H; exact H
        clear H
        have H := H1
        clear H1
        obtain rfl := Option.some.inj H
        go_wp2
        go_ret
        exact ⟨by first | rfl | (simp [errW_none, errW_some] <;> rfl) | (simp only [← hji7, ← hji8]; first | rfl | (simp [errW_none, errW_some] <;> rfl)) | (simp [*, errW_none, errW_some] <;> rfl), by repeat (first | (with_reducible first | exact HB.out | apply below_alloc | apply pw_below_drewN | apply below_drew1 | refine below_set ?_ GE207.out) | exact HB.out)⟩
      · replace c20 := Bool.eq_false_iff.mpr c20
        subst c20
        have H1 : (headgatelaw32_PressureMore.l0 kj10 ji7 ji8 0 t202 t203 t204) = some r := by rw [if_neg (show ¬ (false = true) by decide)] at H; exact H
        clear H
        have H := H1
        clear H1
        have H' := Aside0.mk H
        clear H
        go_wp2
        go_loopg [16] kj10 (fun kq v16 w' => ∃ (x16_2 : Int), v16 = .int .i64 x16_2 ∧ Aside0 (headgatelaw32_PressureMore.l0 kq ji7 ji8 x16_2 t202 t203 t204 = some r) ∧ Aside0 (kq ≤ kj10) ∧ Aside0 (w'.heap[gb207]? = some (.cells #[.int .i64 t202, .int .i64 t203, .int .i64 t204] 23 (0, 0))) ∧ Aside0 (Below w.heap.size w w'))
        case atStart => exact ⟨(0), (by first | rfl | (simp; done) | (simp [*]; done)), H', ⟨Nat.le_refl _⟩, ⟨by (with_reducible repeat (first | refine blk_drewN ?_ _ | refine blk_drew ?_ | refine blk_alloc ?_ _)); exact BK207.out⟩, ⟨by repeat (first | (with_reducible first | exact HB.out | apply below_alloc | apply pw_below_drewN | apply below_drew1 | refine below_set ?_ GE207.out) | exact HB.out)⟩⟩
        case round =>
          clear H'
          try clear c1
          try clear c2
          try clear p2
          try clear c4
          try clear c9
          try clear c18
          try clear c18b0
          try clear c18b1
          try clear c19
          try clear c19b0
          try clear c19b1
          try clear c20
          try clear hcz14_0
          try clear hcz14_1
          try clear hcz14_2
          try clear hcz16_0
          try clear hcz16_1
          try clear hcz16_2
          try clear hfz14_0
          try clear hfz14_1
          try clear hfz14_2
          try clear hfz16_0
          try clear hfz16_1
          try clear hfz16_2
          try clear p2
          obtain ⟨x16_2, rfl, HA, HK2, BK207, HB⟩ := hrel
          cases gk with
          | zero => exact absurd HA.out (by simp [headgatelaw32_PressureMore.l0])
          | succ k2 =>
            have H := HA.out
            clear HA
            simp only [headgatelaw32_PressureMore.l0] at H
            by_cases c21 : x16_2 < 2
            · rw [if_pos c21] at H
              have c21b0 : decide (x16_2 < 2) = true := decide_eq_true c21
              clear c21
              replace H := Option.bind_eq_some_iff.mp H
              obtain ⟨⟨t213, t214⟩, A220, H⟩ := H
              replace H : ((pressure_Next.f k2 t202 t203 t204 (x16_2 == 1) ji8).bind fun bt215 => ((pressure_Missing.f k2 t202 t203 t204 (x16_2 == 1) ji7).bind fun bt217 => (if t214 = 0 then (if bt215.2 = 0 then (if bt217.2 = 0 then (if bt215.1 = true then (if t213 = true then (if ((bt217.1 == 0) == t213) = true then (headgatelaw32_PressureMore.j2 k2 ji7 ji8 x16_2 t213 bt217.1 true t202 t203 t204) else (if bt217.1 < 0 then (headgatelaw32_PressureMore.j2 k2 ji7 ji8 x16_2 t213 bt217.1 true t202 t203 t204) else (headgatelaw32_PressureMore.j2 k2 ji7 ji8 x16_2 t213 bt217.1 (decide (bt217.1 > t204)) t202 t203 t204))) else (headgatelaw32_PressureMore.j2 k2 ji7 ji8 x16_2 t213 bt217.1 true t202 t203 t204)) else (if ((bt217.1 == 0) == t213) = true then (headgatelaw32_PressureMore.j2 k2 ji7 ji8 x16_2 t213 bt217.1 true t202 t203 t204) else (if bt217.1 < 0 then (headgatelaw32_PressureMore.j2 k2 ji7 ji8 x16_2 t213 bt217.1 true t202 t203 t204) else (headgatelaw32_PressureMore.j2 k2 ji7 ji8 x16_2 t213 bt217.1 (decide (bt217.1 > t204)) t202 t203 t204)))) else (headgatelaw32_PressureMore.j2 k2 ji7 ji8 x16_2 t213 bt217.1 true t202 t203 t204)) else (headgatelaw32_PressureMore.j2 k2 ji7 ji8 x16_2 t213 bt217.1 true t202 t203 t204)) else (headgatelaw32_PressureMore.j2 k2 ji7 ji8 x16_2 t213 bt217.1 true t202 t203 t204)))) = some r := H
              have A22 := Aside0.mk A220
              clear A220
              replace H := Option.bind_eq_some_iff.mp H
              obtain ⟨⟨t215, t216⟩, A230, H⟩ := H
              replace H : ((pressure_Missing.f k2 t202 t203 t204 (x16_2 == 1) ji7).bind fun bt217 => (if t214 = 0 then (if t216 = 0 then (if bt217.2 = 0 then (if t215 = true then (if t213 = true then (if ((bt217.1 == 0) == t213) = true then (headgatelaw32_PressureMore.j2 k2 ji7 ji8 x16_2 t213 bt217.1 true t202 t203 t204) else (if bt217.1 < 0 then (headgatelaw32_PressureMore.j2 k2 ji7 ji8 x16_2 t213 bt217.1 true t202 t203 t204) else (headgatelaw32_PressureMore.j2 k2 ji7 ji8 x16_2 t213 bt217.1 (decide (bt217.1 > t204)) t202 t203 t204))) else (headgatelaw32_PressureMore.j2 k2 ji7 ji8 x16_2 t213 bt217.1 true t202 t203 t204)) else (if ((bt217.1 == 0) == t213) = true then (headgatelaw32_PressureMore.j2 k2 ji7 ji8 x16_2 t213 bt217.1 true t202 t203 t204) else (if bt217.1 < 0 then (headgatelaw32_PressureMore.j2 k2 ji7 ji8 x16_2 t213 bt217.1 true t202 t203 t204) else (headgatelaw32_PressureMore.j2 k2 ji7 ji8 x16_2 t213 bt217.1 (decide (bt217.1 > t204)) t202 t203 t204)))) else (headgatelaw32_PressureMore.j2 k2 ji7 ji8 x16_2 t213 bt217.1 true t202 t203 t204)) else (headgatelaw32_PressureMore.j2 k2 ji7 ji8 x16_2 t213 bt217.1 true t202 t203 t204)) else (headgatelaw32_PressureMore.j2 k2 ji7 ji8 x16_2 t213 bt217.1 true t202 t203 t204))) = some r := H
              have A23 := Aside0.mk A230
              clear A230
              replace H := Option.bind_eq_some_iff.mp H
              obtain ⟨⟨t217, t218⟩, A240, H⟩ := H
              replace H : (if t214 = 0 then (if t216 = 0 then (if t218 = 0 then (if t215 = true then (if t213 = true then (if ((t217 == 0) == t213) = true then (headgatelaw32_PressureMore.j2 k2 ji7 ji8 x16_2 t213 t217 true t202 t203 t204) else (if t217 < 0 then (headgatelaw32_PressureMore.j2 k2 ji7 ji8 x16_2 t213 t217 true t202 t203 t204) else (headgatelaw32_PressureMore.j2 k2 ji7 ji8 x16_2 t213 t217 (decide (t217 > t204)) t202 t203 t204))) else (headgatelaw32_PressureMore.j2 k2 ji7 ji8 x16_2 t213 t217 true t202 t203 t204)) else (if ((t217 == 0) == t213) = true then (headgatelaw32_PressureMore.j2 k2 ji7 ji8 x16_2 t213 t217 true t202 t203 t204) else (if t217 < 0 then (headgatelaw32_PressureMore.j2 k2 ji7 ji8 x16_2 t213 t217 true t202 t203 t204) else (headgatelaw32_PressureMore.j2 k2 ji7 ji8 x16_2 t213 t217 (decide (t217 > t204)) t202 t203 t204)))) else (headgatelaw32_PressureMore.j2 k2 ji7 ji8 x16_2 t213 t217 true t202 t203 t204)) else (headgatelaw32_PressureMore.j2 k2 ji7 ji8 x16_2 t213 t217 true t202 t203 t204)) else (headgatelaw32_PressureMore.j2 k2 ji7 ji8 x16_2 t213 t217 true t202 t203 t204)) = some r := H
              have A24 := Aside0.mk A240
              clear A240
              have HC25 := Aside0.mk H
              clear H
              have hcz26_0 : wr.cell? ⟨gb207, 0, none⟩ = some (.int .i64 t202) := (blk_cell BK207.out 0).trans rfl
              have hcz26_1 : wr.cell? ⟨gb207, 1, none⟩ = some (.int .i64 t203) := (blk_cell BK207.out 1).trans rfl
              have hcz26_2 : wr.cell? ⟨gb207, 2, none⟩ = some (.int .i64 t204) := (blk_cell BK207.out 2).trans rfl
              have hfz26_0 := blk_frozen BK207.out 0
              have hfz26_1 := blk_frozen BK207.out 1
              have hfz26_2 := blk_frozen BK207.out 2
              go_upto_region 14 with (first | ((with_reducible refine gate_callee (f := 13) rfl ?_); refine goesL_ (some 73) rfl rfl Try.func13 (by kernel_rfl) rfl #[.agg #[.int .i64 t202, .int .i64 t203, .int .i64 t204], .bool (x16_2 == 1), .int .i64 ji7] rfl (by (try simp only [List.map_toArray, List.map_cons, List.map_nil]); first | done | (simp only [hji7]; rfl) | rfl | (simp only [List.length_drop, List.length_take]; rfl)) ?_; (with_reducible refine (pressure_Next.calls k2 t202 t203 t204 (x16_2 == 1) ji7 t213 t214 _ A22.out).mono ?_); rintro e w27 ⟨rfl, hb⟩; refine ⟨_, rfl, ?_⟩; have n0_ := Aside0.mk (blk_below (g := gb207) (o := .cells #[.int .i64 t202, .int .i64 t203, .int .i64 t204] 23 (0, 0)) (by (with_reducible repeat (first | refine blk_drewN ?_ _ | refine blk_drew ?_ | refine blk_alloc ?_ _)); exact BK207.out) hb); have n1_ := Aside0.mk (below_step (by repeat (first | (with_reducible first | exact HB.out | apply below_alloc | apply pw_below_drewN | apply below_drew1 | refine below_set ?_ GE207.out) | exact HB.out)) hb); clear BK207; clear HB; have BK207 := n0_; have HB := n1_; clear n0_ n1_; (try clear hb); (try clear hb2); (try clear hk); (try clear hi); have hcz28_0 : w27.cell? ⟨gb207, 0, none⟩ = some (.int .i64 t202) := (blk_cell BK207.out 0).trans rfl; have hcz28_1 : w27.cell? ⟨gb207, 1, none⟩ = some (.int .i64 t203) := (blk_cell BK207.out 1).trans rfl; have hcz28_2 : w27.cell? ⟨gb207, 2, none⟩ = some (.int .i64 t204) := (blk_cell BK207.out 2).trans rfl; have hfz28_0 := blk_frozen BK207.out 0; have hfz28_1 := blk_frozen BK207.out 1; have hfz28_2 := blk_frozen BK207.out 2) | ((with_reducible refine gate_callee (f := 13) rfl ?_); refine goesL_ (some 80) rfl rfl Try.func13 (by kernel_rfl) rfl #[.agg #[.int .i64 t202, .int .i64 t203, .int .i64 t204], .bool (x16_2 == 1), .int .i64 ji8] rfl (by (try simp only [List.map_toArray, List.map_cons, List.map_nil]); first | done | (simp only [hji8]; rfl) | rfl | (simp only [List.length_drop, List.length_take]; rfl)) ?_; (with_reducible refine (pressure_Next.calls k2 t202 t203 t204 (x16_2 == 1) ji8 t215 t216 _ A23.out).mono ?_); rintro e w29 ⟨rfl, hb⟩; refine ⟨_, rfl, ?_⟩; have n0_ := Aside0.mk (blk_below (g := gb207) (o := .cells #[.int .i64 t202, .int .i64 t203, .int .i64 t204] 23 (0, 0)) (by (with_reducible repeat (first | refine blk_drewN ?_ _ | refine blk_drew ?_ | refine blk_alloc ?_ _)); exact BK207.out) hb); have n1_ := Aside0.mk (below_step (by repeat (first | (with_reducible first | exact HB.out | apply below_alloc | apply pw_below_drewN | apply below_drew1 | refine below_set ?_ GE207.out) | exact HB.out)) hb); clear BK207; clear HB; have BK207 := n0_; have HB := n1_; clear n0_ n1_; (try clear hb); (try clear hb2); (try clear hk); (try clear hi); have hcz30_0 : w29.cell? ⟨gb207, 0, none⟩ = some (.int .i64 t202) := (blk_cell BK207.out 0).trans rfl; have hcz30_1 : w29.cell? ⟨gb207, 1, none⟩ = some (.int .i64 t203) := (blk_cell BK207.out 1).trans rfl; have hcz30_2 : w29.cell? ⟨gb207, 2, none⟩ = some (.int .i64 t204) := (blk_cell BK207.out 2).trans rfl; have hfz30_0 := blk_frozen BK207.out 0; have hfz30_1 := blk_frozen BK207.out 1; have hfz30_2 := blk_frozen BK207.out 2) | ((with_reducible refine gate_callee (f := 15) rfl ?_); refine goesL_ (some 87) rfl rfl Try.func15 (by kernel_rfl) rfl #[.agg #[.int .i64 t202, .int .i64 t203, .int .i64 t204], .bool (x16_2 == 1), .int .i64 ji7] rfl (by (try simp only [List.map_toArray, List.map_cons, List.map_nil]); first | done | (simp only [hji7]; rfl) | rfl | (simp only [List.length_drop, List.length_take]; rfl)) ?_; (with_reducible refine (pressure_Missing.calls k2 t202 t203 t204 (x16_2 == 1) ji7 t217 t218 _ A24.out).mono ?_); rintro e w31 ⟨rfl, hb⟩; refine ⟨_, rfl, ?_⟩; have n0_ := Aside0.mk (blk_below (g := gb207) (o := .cells #[.int .i64 t202, .int .i64 t203, .int .i64 t204] 23 (0, 0)) (by (with_reducible repeat (first | refine blk_drewN ?_ _ | refine blk_drew ?_ | refine blk_alloc ?_ _)); exact BK207.out) hb); have n1_ := Aside0.mk (below_step (by repeat (first | (with_reducible first | exact HB.out | apply below_alloc | apply pw_below_drewN | apply below_drew1 | refine below_set ?_ GE207.out) | exact HB.out)) hb); clear BK207; clear HB; have BK207 := n0_; have HB := n1_; clear n0_ n1_; (try clear hb); (try clear hb2); (try clear hk); (try clear hi)))
              (try simp only [Act.put, List.setIfInBounds_toArray, List.set_cons_zero, List.set_cons_succ])
              go_cut [122] (fun v122 wc => ∃ (kq : Nat) (x122_24 : Bool), v122 = .bool x122_24 ∧ Aside0 (headgatelaw32_PressureMore.j2 kq ji7 ji8 x16_2 t213 t217 x122_24 t202 t203 t204 = some r) ∧ Aside0 (kq ≤ k2) ∧ Aside0 (wc.heap[gb207]? = some (.cells #[.int .i64 t202, .int .i64 t203, .int .i64 t204] 23 (0, 0))) ∧ Aside0 (Below w.heap.size w wc))
              case first =>
                have H := HC25.out
                clear HC25
                by_cases c32 : t214 = 0
                · rw [if_pos c32] at H
                  have c32b0 : (t214 == 0) = true := beq_iff_eq.mpr c32
                  have c32b1 : (t214 != 0) = false := bne_eq_false_iff_eq.mpr c32
                  clear c32
                  (first | rw [c32b0] | (simp only [i64_w, i32_w]; rw [c32b0]) | skip)
                  by_cases c33 : t216 = 0
                  · rw [if_pos c33] at H
                    have c33b0 : (t216 == 0) = true := beq_iff_eq.mpr c33
                    have c33b1 : (t216 != 0) = false := bne_eq_false_iff_eq.mpr c33
                    clear c33
                    by_cases c34 : t218 = 0
                    · rw [if_pos c34] at H
                      have c34b0 : (t218 == 0) = true := beq_iff_eq.mpr c34
                      have c34b1 : (t218 != 0) = false := bne_eq_false_iff_eq.mpr c34
                      clear c34
                      by_cases c35 : t215 = true
                      · subst c35
                        have H1 : (if t213 = true then (if ((t217 == 0) == t213) = true then (headgatelaw32_PressureMore.j2 k2 ji7 ji8 x16_2 t213 t217 true t202 t203 t204) else (if t217 < 0 then (headgatelaw32_PressureMore.j2 k2 ji7 ji8 x16_2 t213 t217 true t202 t203 t204) else (headgatelaw32_PressureMore.j2 k2 ji7 ji8 x16_2 t213 t217 (decide (t217 > t204)) t202 t203 t204))) else (headgatelaw32_PressureMore.j2 k2 ji7 ji8 x16_2 t213 t217 true t202 t203 t204)) = some r := by rw [if_pos rfl] at H; exact H
                        clear H
                        have H := H1
                        clear H1
                        by_cases c36 : t213 = true
                        · subst c36
                          have H1 : (if ((t217 == 0) == true) = true then (headgatelaw32_PressureMore.j2 k2 ji7 ji8 x16_2 true t217 true t202 t203 t204) else (if t217 < 0 then (headgatelaw32_PressureMore.j2 k2 ji7 ji8 x16_2 true t217 true t202 t203 t204) else (headgatelaw32_PressureMore.j2 k2 ji7 ji8 x16_2 true t217 (decide (t217 > t204)) t202 t203 t204))) = some r := by rw [if_pos rfl] at H; exact H
                          clear H
                          have H := H1
                          clear H1
                          by_cases c37 : ((t217 == 0) == true) = true
                          · rw [if_pos c37] at H
                            have c37b0 : ((t217 == 0) == true) = true := c37
                            (try (have c37b1 : decide ((t217 == 0) = true) = true := by simpa using c37))
                            (try (have c37b2 : ((t217 == 0) == true) = true := by simpa using c37))
                            clear c37
                            have H' := Aside0.mk H
                            clear H
                            go_wp2
                            go_meet
                            case rel => exact ⟨_, (true), (by first | rfl | (simp; done) | (simp [*]; done)), H', ⟨by have := HJ10.out; have := HK2.out; first | omega | exact Nat.le_refl _⟩, ⟨by (with_reducible repeat (first | refine blk_drewN ?_ _ | refine blk_drew ?_ | refine blk_alloc ?_ _)); exact BK207.out⟩, ⟨by repeat (first | (with_reducible first | exact HB.out | apply below_alloc | apply pw_below_drewN | apply below_drew1 | refine below_set ?_ GE207.out) | exact HB.out)⟩⟩
                          · rw [if_neg c37] at H
                            have c37b0 : ((t217 == 0) == true) = false := by simpa using c37
                            (try (have c37b1 : decide ((t217 == 0) = true) = false := by simpa using c37))
                            (try (have c37b2 : ((t217 == 0) == true) = false := by simpa using c37))
                            (try (have c37b3 : ¬ ((t217 == 0) = true) := by simpa using c37))
                            clear c37
                            by_cases c38 : t217 < 0
                            · rw [if_pos c38] at H
                              have c38b0 : decide (t217 < 0) = true := decide_eq_true c38
                              clear c38
                              have H' := Aside0.mk H
                              clear H
                              go_wp2
                              go_meet
                              case rel => exact ⟨_, (true), (by first | rfl | (simp; done) | (simp [*]; done)), H', ⟨by have := HJ10.out; have := HK2.out; first | omega | exact Nat.le_refl _⟩, ⟨by (with_reducible repeat (first | refine blk_drewN ?_ _ | refine blk_drew ?_ | refine blk_alloc ?_ _)); exact BK207.out⟩, ⟨by repeat (first | (with_reducible first | exact HB.out | apply below_alloc | apply pw_below_drewN | apply below_drew1 | refine below_set ?_ GE207.out) | exact HB.out)⟩⟩
                            · rw [if_neg c38] at H
                              have c38b0 : decide (t217 < 0) = false := decide_eq_false c38
                              clear c38
                              have H' := Aside0.mk H
                              clear H
                              have hcz39_0 : w31.cell? ⟨gb207, 0, none⟩ = some (.int .i64 t202) := (blk_cell BK207.out 0).trans rfl
                              have hcz39_1 : w31.cell? ⟨gb207, 1, none⟩ = some (.int .i64 t203) := (blk_cell BK207.out 1).trans rfl
                              have hcz39_2 : w31.cell? ⟨gb207, 2, none⟩ = some (.int .i64 t204) := (blk_cell BK207.out 2).trans rfl
                              have hfz39_0 := blk_frozen BK207.out 0
                              have hfz39_1 := blk_frozen BK207.out 1
                              have hfz39_2 := blk_frozen BK207.out 2
                              go_wp2
                              go_meet
                              case rel => exact ⟨_, (decide (t217 > t204)), (by first | rfl | (simp; done) | (simp [*]; done)), H', ⟨by have := HJ10.out; have := HK2.out; first | omega | exact Nat.le_refl _⟩, ⟨by (with_reducible repeat (first | refine blk_drewN ?_ _ | refine blk_drew ?_ | refine blk_alloc ?_ _)); exact BK207.out⟩, ⟨by repeat (first | (with_reducible first | exact HB.out | apply below_alloc | apply pw_below_drewN | apply below_drew1 | refine below_set ?_ GE207.out) | exact HB.out)⟩⟩
                        · replace c36 := Bool.eq_false_iff.mpr c36
                          subst c36
                          have H1 : (headgatelaw32_PressureMore.j2 k2 ji7 ji8 x16_2 false t217 true t202 t203 t204) = some r := by rw [if_neg (show ¬ (false = true) by decide)] at H; exact H
                          clear H
                          have H := H1
                          clear H1
                          have H' := Aside0.mk H
                          clear H
                          go_wp2
                          go_meet
                          case rel => exact ⟨_, (true), (by first | rfl | (simp; done) | (simp [*]; done)), H', ⟨by have := HJ10.out; have := HK2.out; first | omega | exact Nat.le_refl _⟩, ⟨by (with_reducible repeat (first | refine blk_drewN ?_ _ | refine blk_drew ?_ | refine blk_alloc ?_ _)); exact BK207.out⟩, ⟨by repeat (first | (with_reducible first | exact HB.out | apply below_alloc | apply pw_below_drewN | apply below_drew1 | refine below_set ?_ GE207.out) | exact HB.out)⟩⟩
                      · replace c35 := Bool.eq_false_iff.mpr c35
                        subst c35
                        have H1 : (if ((t217 == 0) == t213) = true then (headgatelaw32_PressureMore.j2 k2 ji7 ji8 x16_2 t213 t217 true t202 t203 t204) else (if t217 < 0 then (headgatelaw32_PressureMore.j2 k2 ji7 ji8 x16_2 t213 t217 true t202 t203 t204) else (headgatelaw32_PressureMore.j2 k2 ji7 ji8 x16_2 t213 t217 (decide (t217 > t204)) t202 t203 t204))) = some r := by rw [if_neg (show ¬ (false = true) by decide)] at H; exact H
                        clear H
                        have H := H1
                        clear H1
                        by_cases c40 : ((t217 == 0) == t213) = true
                        · rw [if_pos c40] at H
                          have c40b0 : ((t217 == 0) == t213) = true := c40
                          (try (have c40b1 : decide ((t217 == 0) = t213) = true := by simpa using c40))
                          (try (have c40b2 : ((t217 == 0) == t213) = true := by simpa using c40))
                          clear c40
                          have H' := Aside0.mk H
                          clear H
                          go_wp2
                          go_meet
                          case rel => exact ⟨_, (true), (by first | rfl | (simp; done) | (simp [*]; done)), H', ⟨by have := HJ10.out; have := HK2.out; first | omega | exact Nat.le_refl _⟩, ⟨by (with_reducible repeat (first | refine blk_drewN ?_ _ | refine blk_drew ?_ | refine blk_alloc ?_ _)); exact BK207.out⟩, ⟨by repeat (first | (with_reducible first | exact HB.out | apply below_alloc | apply pw_below_drewN | apply below_drew1 | refine below_set ?_ GE207.out) | exact HB.out)⟩⟩
                        · rw [if_neg c40] at H
                          have c40b0 : ((t217 == 0) == t213) = false := by simpa using c40
                          (try (have c40b1 : decide ((t217 == 0) = t213) = false := by simpa using c40))
                          (try (have c40b2 : ((t217 == 0) == t213) = false := by simpa using c40))
                          (try (have c40b3 : ¬ ((t217 == 0) = t213) := by simpa using c40))
                          clear c40
                          by_cases c41 : t217 < 0
                          · rw [if_pos c41] at H
                            have c41b0 : decide (t217 < 0) = true := decide_eq_true c41
                            clear c41
                            have H' := Aside0.mk H
                            clear H
                            go_wp2
                            go_meet
                            case rel => exact ⟨_, (true), (by first | rfl | (simp; done) | (simp [*]; done)), H', ⟨by have := HJ10.out; have := HK2.out; first | omega | exact Nat.le_refl _⟩, ⟨by (with_reducible repeat (first | refine blk_drewN ?_ _ | refine blk_drew ?_ | refine blk_alloc ?_ _)); exact BK207.out⟩, ⟨by repeat (first | (with_reducible first | exact HB.out | apply below_alloc | apply pw_below_drewN | apply below_drew1 | refine below_set ?_ GE207.out) | exact HB.out)⟩⟩
                          · rw [if_neg c41] at H
                            have c41b0 : decide (t217 < 0) = false := decide_eq_false c41
                            clear c41
                            have H' := Aside0.mk H
                            clear H
                            have hcz42_0 : w31.cell? ⟨gb207, 0, none⟩ = some (.int .i64 t202) := (blk_cell BK207.out 0).trans rfl
                            have hcz42_1 : w31.cell? ⟨gb207, 1, none⟩ = some (.int .i64 t203) := (blk_cell BK207.out 1).trans rfl
                            have hcz42_2 : w31.cell? ⟨gb207, 2, none⟩ = some (.int .i64 t204) := (blk_cell BK207.out 2).trans rfl
                            have hfz42_0 := blk_frozen BK207.out 0
                            have hfz42_1 := blk_frozen BK207.out 1
                            have hfz42_2 := blk_frozen BK207.out 2
                            go_wp2
                            go_meet
                            case rel => exact ⟨_, (decide (t217 > t204)), (by first | rfl | (simp; done) | (simp [*]; done)), H', ⟨by have := HJ10.out; have := HK2.out; first | omega | exact Nat.le_refl _⟩, ⟨by (with_reducible repeat (first | refine blk_drewN ?_ _ | refine blk_drew ?_ | refine blk_alloc ?_ _)); exact BK207.out⟩, ⟨by repeat (first | (with_reducible first | exact HB.out | apply below_alloc | apply pw_below_drewN | apply below_drew1 | refine below_set ?_ GE207.out) | exact HB.out)⟩⟩
                    · rw [if_neg c34] at H
                      have c34b0 : (t218 == 0) = false := beq_eq_false_iff_ne.mpr c34
                      have c34b1 : (t218 != 0) = true := bne_iff_ne.mpr c34
                      have H' := Aside0.mk H
                      clear H
                      go_wp2
                      go_meet
                      case rel => exact ⟨_, (true), (by first | rfl | (simp; done) | (simp [*]; done)), H', ⟨by have := HJ10.out; have := HK2.out; first | omega | exact Nat.le_refl _⟩, ⟨by (with_reducible repeat (first | refine blk_drewN ?_ _ | refine blk_drew ?_ | refine blk_alloc ?_ _)); exact BK207.out⟩, ⟨by repeat (first | (with_reducible first | exact HB.out | apply below_alloc | apply pw_below_drewN | apply below_drew1 | refine below_set ?_ GE207.out) | exact HB.out)⟩⟩
                  · rw [if_neg c33] at H
                    have c33b0 : (t216 == 0) = false := beq_eq_false_iff_ne.mpr c33
                    have c33b1 : (t216 != 0) = true := bne_iff_ne.mpr c33
                    have H' := Aside0.mk H
                    clear H
                    go_wp2
                    go_meet
                    case rel => exact ⟨_, (true), (by first | rfl | (simp; done) | (simp [*]; done)), H', ⟨by have := HJ10.out; have := HK2.out; first | omega | exact Nat.le_refl _⟩, ⟨by (with_reducible repeat (first | refine blk_drewN ?_ _ | refine blk_drew ?_ | refine blk_alloc ?_ _)); exact BK207.out⟩, ⟨by repeat (first | (with_reducible first | exact HB.out | apply below_alloc | apply pw_below_drewN | apply below_drew1 | refine below_set ?_ GE207.out) | exact HB.out)⟩⟩
                · rw [if_neg c32] at H
                  have c32b0 : (t214 == 0) = false := beq_eq_false_iff_ne.mpr c32
                  have c32b1 : (t214 != 0) = true := bne_iff_ne.mpr c32
                  (first | rw [c32b0] | (simp only [i64_w, i32_w]; rw [c32b0]) | skip)
                  have H' := Aside0.mk H
                  clear H
                  go_wp2
                  go_meet
                  case rel => exact ⟨_, (true), (by first | rfl | (simp; done) | (simp [*]; done)), H', ⟨by have := HJ10.out; have := HK2.out; first | omega | exact Nat.le_refl _⟩, ⟨by (with_reducible repeat (first | refine blk_drewN ?_ _ | refine blk_drew ?_ | refine blk_alloc ?_ _)); exact BK207.out⟩, ⟨by repeat (first | (with_reducible first | exact HB.out | apply below_alloc | apply pw_below_drewN | apply below_drew1 | refine below_set ?_ GE207.out) | exact HB.out)⟩⟩
              case rest =>
                clear HC25
                try clear c1
                try clear c2
                try clear p2
                try clear c3
                try clear c4
                try clear c9
                try clear c13
                try clear c15
                try clear c18
                try clear c18b0
                try clear c18b1
                try clear c19
                try clear c19b0
                try clear c19b1
                try clear c20
                try clear c21
                try clear c21b0
                try clear c32
                try clear c32b0
                try clear c32b1
                try clear c33
                try clear c33b0
                try clear c33b1
                try clear c34
                try clear c34b0
                try clear c34b1
                try clear c35
                try clear c36
                try clear c37
                try clear c37b0
                try clear c37b1
                try clear c37b2
                try clear c38
                try clear c38b0
                try clear c40
                try clear c40b0
                try clear c40b1
                try clear c40b2
                try clear c41
                try clear c41b0
                try clear hcz14_0
                try clear hcz14_1
                try clear hcz14_2
                try clear hcz16_0
                try clear hcz16_1
                try clear hcz16_2
                try clear hcz26_0
                try clear hcz26_1
                try clear hcz26_2
                try clear hcz28_0
                try clear hcz28_1
                try clear hcz28_2
                try clear hcz30_0
                try clear hcz30_1
                try clear hcz30_2
                try clear hcz39_0
                try clear hcz39_1
                try clear hcz39_2
                try clear hcz42_0
                try clear hcz42_1
                try clear hcz42_2
                try clear hfz14_0
                try clear hfz14_1
                try clear hfz14_2
                try clear hfz16_0
                try clear hfz16_1
                try clear hfz16_2
                try clear hfz26_0
                try clear hfz26_1
                try clear hfz26_2
                try clear hfz28_0
                try clear hfz28_1
                try clear hfz28_2
                try clear hfz30_0
                try clear hfz30_1
                try clear hfz30_2
                try clear hfz39_0
                try clear hfz39_1
                try clear hfz39_2
                try clear hfz42_0
                try clear hfz42_1
                try clear hfz42_2
                try clear p2
                obtain ⟨kq, x122_24, rfl, HA, HJ24, BK207, HB⟩ := hcut
                cases kq with
                | zero => exact absurd HA.out (by simp [headgatelaw32_PressureMore.j2])
                | succ kj24 =>
                  have H := HA.out
                  clear HA
                  simp only [headgatelaw32_PressureMore.j2] at H
                  by_cases c43 : x122_24 = true
                  · subst c43
                    have H1 : (some false) = some r := by rw [if_pos rfl] at H; exact H
                    clear H
                    have H := H1
                    clear H1
                    obtain rfl := Option.some.inj H
                    go_wp2
                    go_ret
                    exact ⟨by first | rfl | (simp [errW_none, errW_some] <;> rfl) | (simp only [← hji7, ← hji8]; first | rfl | (simp [errW_none, errW_some] <;> rfl)) | (simp [*, errW_none, errW_some] <;> rfl), by repeat (first | (with_reducible first | exact HB.out | apply below_alloc | apply pw_below_drewN | apply below_drew1 | refine below_set ?_ GE207.out) | exact HB.out)⟩
                  · replace c43 := Bool.eq_false_iff.mpr c43
                    subst c43
                    have H1 : (if t213 = true then ((pressure_Next.f kj24 t202 t203 t204 true (wrap64 (ji7 + t217))).bind fun bt219 => ((pressure_Next.f kj24 t202 t203 t204 true (wrap64 ((wrap64 (ji7 + t217)) - 1))).bind fun bt221 => (if bt219.2 = 0 then (if bt221.2 = 0 then (if bt219.1 = true then (some false) else (if bt221.1 = true then (headgatelaw32_PressureMore.l0 kj24 ji7 ji8 (wrap64 (x16_2 + 1)) t202 t203 t204) else (some false))) else (some false)) else (some false)))) else (headgatelaw32_PressureMore.l0 kj24 ji7 ji8 (wrap64 (x16_2 + 1)) t202 t203 t204)) = some r := by rw [if_neg (show ¬ (false = true) by decide)] at H; exact H
                    clear H
                    have H := H1
                    clear H1
                    by_cases c44 : t213 = true
                    · subst c44
                      have H1 : ((pressure_Next.f kj24 t202 t203 t204 true (wrap64 (ji7 + t217))).bind fun bt219 => ((pressure_Next.f kj24 t202 t203 t204 true (wrap64 ((wrap64 (ji7 + t217)) - 1))).bind fun bt221 => (if bt219.2 = 0 then (if bt221.2 = 0 then (if bt219.1 = true then (some false) else (if bt221.1 = true then (headgatelaw32_PressureMore.l0 kj24 ji7 ji8 (wrap64 (x16_2 + 1)) t202 t203 t204) else (some false))) else (some false)) else (some false)))) = some r := by rw [if_pos rfl] at H; exact H
                      clear H
                      have H := H1
                      clear H1
                      replace H := Option.bind_eq_some_iff.mp H
                      obtain ⟨⟨t219, t220⟩, A450, H⟩ := H
                      replace H : ((pressure_Next.f kj24 t202 t203 t204 true (wrap64 ((wrap64 (ji7 + t217)) - 1))).bind fun bt221 => (if t220 = 0 then (if bt221.2 = 0 then (if t219 = true then (some false) else (if bt221.1 = true then (headgatelaw32_PressureMore.l0 kj24 ji7 ji8 (wrap64 (x16_2 + 1)) t202 t203 t204) else (some false))) else (some false)) else (some false))) = some r := H
                      have A45 := Aside0.mk A450
                      clear A450
                      replace H := Option.bind_eq_some_iff.mp H
                      obtain ⟨⟨t221, t222⟩, A460, H⟩ := H
                      replace H : (if t220 = 0 then (if t222 = 0 then (if t219 = true then (some false) else (if t221 = true then (headgatelaw32_PressureMore.l0 kj24 ji7 ji8 (wrap64 (x16_2 + 1)) t202 t203 t204) else (some false))) else (some false)) else (some false)) = some r := H
                      have A46 := Aside0.mk A460
                      clear A460
                      by_cases c47 : t220 = 0
                      · rw [if_pos c47] at H
                        have c47b0 : (t220 == 0) = true := beq_iff_eq.mpr c47
                        have c47b1 : (t220 != 0) = false := bne_eq_false_iff_eq.mpr c47
                        clear c47
                        by_cases c48 : t222 = 0
                        · rw [if_pos c48] at H
                          have c48b0 : (t222 == 0) = true := beq_iff_eq.mpr c48
                          have c48b1 : (t222 != 0) = false := bne_eq_false_iff_eq.mpr c48
                          clear c48
                          by_cases c49 : t219 = true
                          · subst c49
                            have H1 : (some false) = some r := by rw [if_pos rfl] at H; exact H
                            clear H
                            have H := H1
                            clear H1
                            obtain rfl := Option.some.inj H
                            have hcz50_0 : wc.cell? ⟨gb207, 0, none⟩ = some (.int .i64 t202) := (blk_cell BK207.out 0).trans rfl
                            have hcz50_1 : wc.cell? ⟨gb207, 1, none⟩ = some (.int .i64 t203) := (blk_cell BK207.out 1).trans rfl
                            have hcz50_2 : wc.cell? ⟨gb207, 2, none⟩ = some (.int .i64 t204) := (blk_cell BK207.out 2).trans rfl
                            have hfz50_0 := blk_frozen BK207.out 0
                            have hfz50_1 := blk_frozen BK207.out 1
                            have hfz50_2 := blk_frozen BK207.out 2
                            go_wp2_with (first | ((with_reducible refine gate_callee (f := 13) rfl ?_); refine goesL_ (some 129) rfl rfl Try.func13 (by kernel_rfl) rfl #[.agg #[.int .i64 t202, .int .i64 t203, .int .i64 t204], .bool true, .int .i64 (wrap64 (ji7 + t217))] rfl (by (try simp only [List.map_toArray, List.map_cons, List.map_nil]); first | done | (simp only [hji7]; rfl) | rfl | (simp only [List.length_drop, List.length_take]; rfl)) ?_; (with_reducible refine (pressure_Next.calls kj24 t202 t203 t204 true (wrap64 (ji7 + t217)) true t220 _ A45.out).mono ?_); rintro e w51 ⟨rfl, hb⟩; refine ⟨_, rfl, ?_⟩; have n0_ := Aside0.mk (blk_below (g := gb207) (o := .cells #[.int .i64 t202, .int .i64 t203, .int .i64 t204] 23 (0, 0)) (by (with_reducible repeat (first | refine blk_drewN ?_ _ | refine blk_drew ?_ | refine blk_alloc ?_ _)); exact BK207.out) hb); have n1_ := Aside0.mk (below_step (by repeat (first | (with_reducible first | exact HB.out | apply below_alloc | apply pw_below_drewN | apply below_drew1 | refine below_set ?_ GE207.out) | exact HB.out)) hb); clear BK207; clear HB; have BK207 := n0_; have HB := n1_; clear n0_ n1_; (try clear hb); (try clear hb2); (try clear hk); (try clear hi); have hcz52_0 : w51.cell? ⟨gb207, 0, none⟩ = some (.int .i64 t202) := (blk_cell BK207.out 0).trans rfl; have hcz52_1 : w51.cell? ⟨gb207, 1, none⟩ = some (.int .i64 t203) := (blk_cell BK207.out 1).trans rfl; have hcz52_2 : w51.cell? ⟨gb207, 2, none⟩ = some (.int .i64 t204) := (blk_cell BK207.out 2).trans rfl; have hfz52_0 := blk_frozen BK207.out 0; have hfz52_1 := blk_frozen BK207.out 1; have hfz52_2 := blk_frozen BK207.out 2) | ((with_reducible refine gate_callee (f := 13) rfl ?_); refine goesL_ (some 138) rfl rfl Try.func13 (by kernel_rfl) rfl #[.agg #[.int .i64 t202, .int .i64 t203, .int .i64 t204], .bool true, .int .i64 (wrap64 ((wrap64 (ji7 + t217)) - 1))] rfl (by (try simp only [List.map_toArray, List.map_cons, List.map_nil]); first | done | (simp only [hji7]; rfl) | rfl | (simp only [List.length_drop, List.length_take]; rfl)) ?_; (with_reducible refine (pressure_Next.calls kj24 t202 t203 t204 true (wrap64 ((wrap64 (ji7 + t217)) - 1)) t221 t222 _ A46.out).mono ?_); rintro e w53 ⟨rfl, hb⟩; refine ⟨_, rfl, ?_⟩; have n0_ := Aside0.mk (blk_below (g := gb207) (o := .cells #[.int .i64 t202, .int .i64 t203, .int .i64 t204] 23 (0, 0)) (by (with_reducible repeat (first | refine blk_drewN ?_ _ | refine blk_drew ?_ | refine blk_alloc ?_ _)); exact BK207.out) hb); have n1_ := Aside0.mk (below_step (by repeat (first | (with_reducible first | exact HB.out | apply below_alloc | apply pw_below_drewN | apply below_drew1 | refine below_set ?_ GE207.out) | exact HB.out)) hb); clear BK207; clear HB; have BK207 := n0_; have HB := n1_; clear n0_ n1_; (try clear hb); (try clear hb2); (try clear hk); (try clear hi)))
                            go_ret
                            exact ⟨by first | rfl | (simp [errW_none, errW_some] <;> rfl) | (simp only [← hji7, ← hji8]; first | rfl | (simp [errW_none, errW_some] <;> rfl)) | (simp [*, errW_none, errW_some] <;> rfl), by repeat (first | (with_reducible first | exact HB.out | apply below_alloc | apply pw_below_drewN | apply below_drew1 | refine below_set ?_ GE207.out) | exact HB.out)⟩
                          · replace c49 := Bool.eq_false_iff.mpr c49
                            subst c49
                            have H1 : (if t221 = true then (headgatelaw32_PressureMore.l0 kj24 ji7 ji8 (wrap64 (x16_2 + 1)) t202 t203 t204) else (some false)) = some r := by rw [if_neg (show ¬ (false = true) by decide)] at H; exact H
                            clear H
                            have H := H1
                            clear H1
                            by_cases c54 : t221 = true
                            · subst c54
                              have H1 : (headgatelaw32_PressureMore.l0 kj24 ji7 ji8 (wrap64 (x16_2 + 1)) t202 t203 t204) = some r := by rw [if_pos rfl] at H; exact H
                              clear H
                              have H := H1
                              clear H1
                              have H' := Aside0.mk H
                              clear H
                              have hcz55_0 : wc.cell? ⟨gb207, 0, none⟩ = some (.int .i64 t202) := (blk_cell BK207.out 0).trans rfl
                              have hcz55_1 : wc.cell? ⟨gb207, 1, none⟩ = some (.int .i64 t203) := (blk_cell BK207.out 1).trans rfl
                              have hcz55_2 : wc.cell? ⟨gb207, 2, none⟩ = some (.int .i64 t204) := (blk_cell BK207.out 2).trans rfl
                              have hfz55_0 := blk_frozen BK207.out 0
                              have hfz55_1 := blk_frozen BK207.out 1
                              have hfz55_2 := blk_frozen BK207.out 2
                              go_wp2_with (first | ((with_reducible refine gate_callee (f := 13) rfl ?_); refine goesL_ (some 129) rfl rfl Try.func13 (by kernel_rfl) rfl #[.agg #[.int .i64 t202, .int .i64 t203, .int .i64 t204], .bool true, .int .i64 (wrap64 (ji7 + t217))] rfl (by (try simp only [List.map_toArray, List.map_cons, List.map_nil]); first | done | (simp only [hji7]; rfl) | rfl | (simp only [List.length_drop, List.length_take]; rfl)) ?_; (with_reducible refine (pressure_Next.calls kj24 t202 t203 t204 true (wrap64 (ji7 + t217)) false t220 _ A45.out).mono ?_); rintro e w56 ⟨rfl, hb⟩; refine ⟨_, rfl, ?_⟩; have n0_ := Aside0.mk (blk_below (g := gb207) (o := .cells #[.int .i64 t202, .int .i64 t203, .int .i64 t204] 23 (0, 0)) (by (with_reducible repeat (first | refine blk_drewN ?_ _ | refine blk_drew ?_ | refine blk_alloc ?_ _)); exact BK207.out) hb); have n1_ := Aside0.mk (below_step (by repeat (first | (with_reducible first | exact HB.out | apply below_alloc | apply pw_below_drewN | apply below_drew1 | refine below_set ?_ GE207.out) | exact HB.out)) hb); clear BK207; clear HB; have BK207 := n0_; have HB := n1_; clear n0_ n1_; (try clear hb); (try clear hb2); (try clear hk); (try clear hi); have hcz57_0 : w56.cell? ⟨gb207, 0, none⟩ = some (.int .i64 t202) := (blk_cell BK207.out 0).trans rfl; have hcz57_1 : w56.cell? ⟨gb207, 1, none⟩ = some (.int .i64 t203) := (blk_cell BK207.out 1).trans rfl; have hcz57_2 : w56.cell? ⟨gb207, 2, none⟩ = some (.int .i64 t204) := (blk_cell BK207.out 2).trans rfl; have hfz57_0 := blk_frozen BK207.out 0; have hfz57_1 := blk_frozen BK207.out 1; have hfz57_2 := blk_frozen BK207.out 2) | ((with_reducible refine gate_callee (f := 13) rfl ?_); refine goesL_ (some 138) rfl rfl Try.func13 (by kernel_rfl) rfl #[.agg #[.int .i64 t202, .int .i64 t203, .int .i64 t204], .bool true, .int .i64 (wrap64 ((wrap64 (ji7 + t217)) - 1))] rfl (by (try simp only [List.map_toArray, List.map_cons, List.map_nil]); first | done | (simp only [hji7]; rfl) | rfl | (simp only [List.length_drop, List.length_take]; rfl)) ?_; (with_reducible refine (pressure_Next.calls kj24 t202 t203 t204 true (wrap64 ((wrap64 (ji7 + t217)) - 1)) true t222 _ A46.out).mono ?_); rintro e w58 ⟨rfl, hb⟩; refine ⟨_, rfl, ?_⟩; have n0_ := Aside0.mk (blk_below (g := gb207) (o := .cells #[.int .i64 t202, .int .i64 t203, .int .i64 t204] 23 (0, 0)) (by (with_reducible repeat (first | refine blk_drewN ?_ _ | refine blk_drew ?_ | refine blk_alloc ?_ _)); exact BK207.out) hb); have n1_ := Aside0.mk (below_step (by repeat (first | (with_reducible first | exact HB.out | apply below_alloc | apply pw_below_drewN | apply below_drew1 | refine below_set ?_ GE207.out) | exact HB.out)) hb); clear BK207; clear HB; have BK207 := n0_; have HB := n1_; clear n0_ n1_; (try clear hb); (try clear hb2); (try clear hk); (try clear hi)))
                              go_roundg kj24
                              case measure => have := HJ10.out; have := HK2.out; have := HJ24.out; omega
                              case rel => exact ⟨(wrap64 (x16_2 + 1)), (by first | rfl | (simp; done) | (simp [*]; done)), H', ⟨by have := HJ10.out; have := HK2.out; have := HJ24.out; omega⟩, ⟨by (with_reducible repeat (first | refine blk_drewN ?_ _ | refine blk_drew ?_ | refine blk_alloc ?_ _)); exact BK207.out⟩, ⟨by repeat (first | (with_reducible first | exact HB.out | apply below_alloc | apply pw_below_drewN | apply below_drew1 | refine below_set ?_ GE207.out) | exact HB.out)⟩⟩
                            · replace c54 := Bool.eq_false_iff.mpr c54
                              subst c54
                              have H1 : (some false) = some r := by rw [if_neg (show ¬ (false = true) by decide)] at H; exact H
                              clear H
                              have H := H1
                              clear H1
                              obtain rfl := Option.some.inj H
                              have hcz59_0 : wc.cell? ⟨gb207, 0, none⟩ = some (.int .i64 t202) := (blk_cell BK207.out 0).trans rfl
                              have hcz59_1 : wc.cell? ⟨gb207, 1, none⟩ = some (.int .i64 t203) := (blk_cell BK207.out 1).trans rfl
                              have hcz59_2 : wc.cell? ⟨gb207, 2, none⟩ = some (.int .i64 t204) := (blk_cell BK207.out 2).trans rfl
                              have hfz59_0 := blk_frozen BK207.out 0
                              have hfz59_1 := blk_frozen BK207.out 1
                              have hfz59_2 := blk_frozen BK207.out 2
                              go_wp2_with (first | ((with_reducible refine gate_callee (f := 13) rfl ?_); refine goesL_ (some 129) rfl rfl Try.func13 (by kernel_rfl) rfl #[.agg #[.int .i64 t202, .int .i64 t203, .int .i64 t204], .bool true, .int .i64 (wrap64 (ji7 + t217))] rfl (by (try simp only [List.map_toArray, List.map_cons, List.map_nil]); first | done | (simp only [hji7]; rfl) | rfl | (simp only [List.length_drop, List.length_take]; rfl)) ?_; (with_reducible refine (pressure_Next.calls kj24 t202 t203 t204 true (wrap64 (ji7 + t217)) false t220 _ A45.out).mono ?_); rintro e w60 ⟨rfl, hb⟩; refine ⟨_, rfl, ?_⟩; have n0_ := Aside0.mk (blk_below (g := gb207) (o := .cells #[.int .i64 t202, .int .i64 t203, .int .i64 t204] 23 (0, 0)) (by (with_reducible repeat (first | refine blk_drewN ?_ _ | refine blk_drew ?_ | refine blk_alloc ?_ _)); exact BK207.out) hb); have n1_ := Aside0.mk (below_step (by repeat (first | (with_reducible first | exact HB.out | apply below_alloc | apply pw_below_drewN | apply below_drew1 | refine below_set ?_ GE207.out) | exact HB.out)) hb); clear BK207; clear HB; have BK207 := n0_; have HB := n1_; clear n0_ n1_; (try clear hb); (try clear hb2); (try clear hk); (try clear hi); have hcz61_0 : w60.cell? ⟨gb207, 0, none⟩ = some (.int .i64 t202) := (blk_cell BK207.out 0).trans rfl; have hcz61_1 : w60.cell? ⟨gb207, 1, none⟩ = some (.int .i64 t203) := (blk_cell BK207.out 1).trans rfl; have hcz61_2 : w60.cell? ⟨gb207, 2, none⟩ = some (.int .i64 t204) := (blk_cell BK207.out 2).trans rfl; have hfz61_0 := blk_frozen BK207.out 0; have hfz61_1 := blk_frozen BK207.out 1; have hfz61_2 := blk_frozen BK207.out 2) | ((with_reducible refine gate_callee (f := 13) rfl ?_); refine goesL_ (some 138) rfl rfl Try.func13 (by kernel_rfl) rfl #[.agg #[.int .i64 t202, .int .i64 t203, .int .i64 t204], .bool true, .int .i64 (wrap64 ((wrap64 (ji7 + t217)) - 1))] rfl (by (try simp only [List.map_toArray, List.map_cons, List.map_nil]); first | done | (simp only [hji7]; rfl) | rfl | (simp only [List.length_drop, List.length_take]; rfl)) ?_; (with_reducible refine (pressure_Next.calls kj24 t202 t203 t204 true (wrap64 ((wrap64 (ji7 + t217)) - 1)) false t222 _ A46.out).mono ?_); rintro e w62 ⟨rfl, hb⟩; refine ⟨_, rfl, ?_⟩; have n0_ := Aside0.mk (blk_below (g := gb207) (o := .cells #[.int .i64 t202, .int .i64 t203, .int .i64 t204] 23 (0, 0)) (by (with_reducible repeat (first | refine blk_drewN ?_ _ | refine blk_drew ?_ | refine blk_alloc ?_ _)); exact BK207.out) hb); have n1_ := Aside0.mk (below_step (by repeat (first | (with_reducible first | exact HB.out | apply below_alloc | apply pw_below_drewN | apply below_drew1 | refine below_set ?_ GE207.out) | exact HB.out)) hb); clear BK207; clear HB; have BK207 := n0_; have HB := n1_; clear n0_ n1_; (try clear hb); (try clear hb2); (try clear hk); (try clear hi)))
                              go_ret
                              exact ⟨by first | rfl | (simp [errW_none, errW_some] <;> rfl) | (simp only [← hji7, ← hji8]; first | rfl | (simp [errW_none, errW_some] <;> rfl)) | (simp [*, errW_none, errW_some] <;> rfl), by repeat (first | (with_reducible first | exact HB.out | apply below_alloc | apply pw_below_drewN | apply below_drew1 | refine below_set ?_ GE207.out) | exact HB.out)⟩
                        · rw [if_neg c48] at H
                          have c48b0 : (t222 == 0) = false := beq_eq_false_iff_ne.mpr c48
                          have c48b1 : (t222 != 0) = true := bne_iff_ne.mpr c48
                          obtain rfl := Option.some.inj H
                          have hcz63_0 : wc.cell? ⟨gb207, 0, none⟩ = some (.int .i64 t202) := (blk_cell BK207.out 0).trans rfl
                          have hcz63_1 : wc.cell? ⟨gb207, 1, none⟩ = some (.int .i64 t203) := (blk_cell BK207.out 1).trans rfl
                          have hcz63_2 : wc.cell? ⟨gb207, 2, none⟩ = some (.int .i64 t204) := (blk_cell BK207.out 2).trans rfl
                          have hfz63_0 := blk_frozen BK207.out 0
                          have hfz63_1 := blk_frozen BK207.out 1
                          have hfz63_2 := blk_frozen BK207.out 2
                          go_wp2_with (first | ((with_reducible refine gate_callee (f := 13) rfl ?_); refine goesL_ (some 129) rfl rfl Try.func13 (by kernel_rfl) rfl #[.agg #[.int .i64 t202, .int .i64 t203, .int .i64 t204], .bool true, .int .i64 (wrap64 (ji7 + t217))] rfl (by (try simp only [List.map_toArray, List.map_cons, List.map_nil]); first | done | (simp only [hji7]; rfl) | rfl | (simp only [List.length_drop, List.length_take]; rfl)) ?_; (with_reducible refine (pressure_Next.calls kj24 t202 t203 t204 true (wrap64 (ji7 + t217)) t219 t220 _ A45.out).mono ?_); rintro e w64 ⟨rfl, hb⟩; refine ⟨_, rfl, ?_⟩; have n0_ := Aside0.mk (blk_below (g := gb207) (o := .cells #[.int .i64 t202, .int .i64 t203, .int .i64 t204] 23 (0, 0)) (by (with_reducible repeat (first | refine blk_drewN ?_ _ | refine blk_drew ?_ | refine blk_alloc ?_ _)); exact BK207.out) hb); have n1_ := Aside0.mk (below_step (by repeat (first | (with_reducible first | exact HB.out | apply below_alloc | apply pw_below_drewN | apply below_drew1 | refine below_set ?_ GE207.out) | exact HB.out)) hb); clear BK207; clear HB; have BK207 := n0_; have HB := n1_; clear n0_ n1_; (try clear hb); (try clear hb2); (try clear hk); (try clear hi); have hcz65_0 : w64.cell? ⟨gb207, 0, none⟩ = some (.int .i64 t202) := (blk_cell BK207.out 0).trans rfl; have hcz65_1 : w64.cell? ⟨gb207, 1, none⟩ = some (.int .i64 t203) := (blk_cell BK207.out 1).trans rfl; have hcz65_2 : w64.cell? ⟨gb207, 2, none⟩ = some (.int .i64 t204) := (blk_cell BK207.out 2).trans rfl; have hfz65_0 := blk_frozen BK207.out 0; have hfz65_1 := blk_frozen BK207.out 1; have hfz65_2 := blk_frozen BK207.out 2) | ((with_reducible refine gate_callee (f := 13) rfl ?_); refine goesL_ (some 138) rfl rfl Try.func13 (by kernel_rfl) rfl #[.agg #[.int .i64 t202, .int .i64 t203, .int .i64 t204], .bool true, .int .i64 (wrap64 ((wrap64 (ji7 + t217)) - 1))] rfl (by (try simp only [List.map_toArray, List.map_cons, List.map_nil]); first | done | (simp only [hji7]; rfl) | rfl | (simp only [List.length_drop, List.length_take]; rfl)) ?_; (with_reducible refine (pressure_Next.calls kj24 t202 t203 t204 true (wrap64 ((wrap64 (ji7 + t217)) - 1)) t221 t222 _ A46.out).mono ?_); rintro e w66 ⟨rfl, hb⟩; refine ⟨_, rfl, ?_⟩; have n0_ := Aside0.mk (blk_below (g := gb207) (o := .cells #[.int .i64 t202, .int .i64 t203, .int .i64 t204] 23 (0, 0)) (by (with_reducible repeat (first | refine blk_drewN ?_ _ | refine blk_drew ?_ | refine blk_alloc ?_ _)); exact BK207.out) hb); have n1_ := Aside0.mk (below_step (by repeat (first | (with_reducible first | exact HB.out | apply below_alloc | apply pw_below_drewN | apply below_drew1 | refine below_set ?_ GE207.out) | exact HB.out)) hb); clear BK207; clear HB; have BK207 := n0_; have HB := n1_; clear n0_ n1_; (try clear hb); (try clear hb2); (try clear hk); (try clear hi)))
                          go_ret
                          exact ⟨by first | rfl | (simp [errW_none, errW_some] <;> rfl) | (simp only [← hji7, ← hji8]; first | rfl | (simp [errW_none, errW_some] <;> rfl)) | (simp [*, errW_none, errW_some] <;> rfl), by repeat (first | (with_reducible first | exact HB.out | apply below_alloc | apply pw_below_drewN | apply below_drew1 | refine below_set ?_ GE207.out) | exact HB.out)⟩
                      · rw [if_neg c47] at H
                        have c47b0 : (t220 == 0) = false := beq_eq_false_iff_ne.mpr c47
                        have c47b1 : (t220 != 0) = true := bne_iff_ne.mpr c47
                        obtain rfl := Option.some.inj H
                        have hcz67_0 : wc.cell? ⟨gb207, 0, none⟩ = some (.int .i64 t202) := (blk_cell BK207.out 0).trans rfl
                        have hcz67_1 : wc.cell? ⟨gb207, 1, none⟩ = some (.int .i64 t203) := (blk_cell BK207.out 1).trans rfl
                        have hcz67_2 : wc.cell? ⟨gb207, 2, none⟩ = some (.int .i64 t204) := (blk_cell BK207.out 2).trans rfl
                        have hfz67_0 := blk_frozen BK207.out 0
                        have hfz67_1 := blk_frozen BK207.out 1
                        have hfz67_2 := blk_frozen BK207.out 2
                        go_wp2_with (first | ((with_reducible refine gate_callee (f := 13) rfl ?_); refine goesL_ (some 129) rfl rfl Try.func13 (by kernel_rfl) rfl #[.agg #[.int .i64 t202, .int .i64 t203, .int .i64 t204], .bool true, .int .i64 (wrap64 (ji7 + t217))] rfl (by (try simp only [List.map_toArray, List.map_cons, List.map_nil]); first | done | (simp only [hji7]; rfl) | rfl | (simp only [List.length_drop, List.length_take]; rfl)) ?_; (with_reducible refine (pressure_Next.calls kj24 t202 t203 t204 true (wrap64 (ji7 + t217)) t219 t220 _ A45.out).mono ?_); rintro e w68 ⟨rfl, hb⟩; refine ⟨_, rfl, ?_⟩; have n0_ := Aside0.mk (blk_below (g := gb207) (o := .cells #[.int .i64 t202, .int .i64 t203, .int .i64 t204] 23 (0, 0)) (by (with_reducible repeat (first | refine blk_drewN ?_ _ | refine blk_drew ?_ | refine blk_alloc ?_ _)); exact BK207.out) hb); have n1_ := Aside0.mk (below_step (by repeat (first | (with_reducible first | exact HB.out | apply below_alloc | apply pw_below_drewN | apply below_drew1 | refine below_set ?_ GE207.out) | exact HB.out)) hb); clear BK207; clear HB; have BK207 := n0_; have HB := n1_; clear n0_ n1_; (try clear hb); (try clear hb2); (try clear hk); (try clear hi); have hcz69_0 : w68.cell? ⟨gb207, 0, none⟩ = some (.int .i64 t202) := (blk_cell BK207.out 0).trans rfl; have hcz69_1 : w68.cell? ⟨gb207, 1, none⟩ = some (.int .i64 t203) := (blk_cell BK207.out 1).trans rfl; have hcz69_2 : w68.cell? ⟨gb207, 2, none⟩ = some (.int .i64 t204) := (blk_cell BK207.out 2).trans rfl; have hfz69_0 := blk_frozen BK207.out 0; have hfz69_1 := blk_frozen BK207.out 1; have hfz69_2 := blk_frozen BK207.out 2) | ((with_reducible refine gate_callee (f := 13) rfl ?_); refine goesL_ (some 138) rfl rfl Try.func13 (by kernel_rfl) rfl #[.agg #[.int .i64 t202, .int .i64 t203, .int .i64 t204], .bool true, .int .i64 (wrap64 ((wrap64 (ji7 + t217)) - 1))] rfl (by (try simp only [List.map_toArray, List.map_cons, List.map_nil]); first | done | (simp only [hji7]; rfl) | rfl | (simp only [List.length_drop, List.length_take]; rfl)) ?_; (with_reducible refine (pressure_Next.calls kj24 t202 t203 t204 true (wrap64 ((wrap64 (ji7 + t217)) - 1)) t221 t222 _ A46.out).mono ?_); rintro e w70 ⟨rfl, hb⟩; refine ⟨_, rfl, ?_⟩; have n0_ := Aside0.mk (blk_below (g := gb207) (o := .cells #[.int .i64 t202, .int .i64 t203, .int .i64 t204] 23 (0, 0)) (by (with_reducible repeat (first | refine blk_drewN ?_ _ | refine blk_drew ?_ | refine blk_alloc ?_ _)); exact BK207.out) hb); have n1_ := Aside0.mk (below_step (by repeat (first | (with_reducible first | exact HB.out | apply below_alloc | apply pw_below_drewN | apply below_drew1 | refine below_set ?_ GE207.out) | exact HB.out)) hb); clear BK207; clear HB; have BK207 := n0_; have HB := n1_; clear n0_ n1_; (try clear hb); (try clear hb2); (try clear hk); (try clear hi)))
                        go_ret
                        exact ⟨by first | rfl | (simp [errW_none, errW_some] <;> rfl) | (simp only [← hji7, ← hji8]; first | rfl | (simp [errW_none, errW_some] <;> rfl)) | (simp [*, errW_none, errW_some] <;> rfl), by repeat (first | (with_reducible first | exact HB.out | apply below_alloc | apply pw_below_drewN | apply below_drew1 | refine below_set ?_ GE207.out) | exact HB.out)⟩
                    · replace c44 := Bool.eq_false_iff.mpr c44
                      subst c44
                      have H1 : (headgatelaw32_PressureMore.l0 kj24 ji7 ji8 (wrap64 (x16_2 + 1)) t202 t203 t204) = some r := by rw [if_neg (show ¬ (false = true) by decide)] at H; exact H
                      clear H
                      have H := H1
                      clear H1
                      have H' := Aside0.mk H
                      clear H
                      go_wp2
                      go_roundg kj24
                      case measure => have := HJ10.out; have := HK2.out; have := HJ24.out; omega
                      case rel => exact ⟨(wrap64 (x16_2 + 1)), (by first | rfl | (simp; done) | (simp [*]; done)), H', ⟨by have := HJ10.out; have := HK2.out; have := HJ24.out; omega⟩, ⟨by (with_reducible repeat (first | refine blk_drewN ?_ _ | refine blk_drew ?_ | refine blk_alloc ?_ _)); exact BK207.out⟩, ⟨by repeat (first | (with_reducible first | exact HB.out | apply below_alloc | apply pw_below_drewN | apply below_drew1 | refine below_set ?_ GE207.out) | exact HB.out)⟩⟩
            · rw [if_neg c21] at H
              have c21b0 : decide (x16_2 < 2) = false := decide_eq_false c21
              clear c21
              replace H := Option.bind_eq_some_iff.mp H
              obtain ⟨t212, A710, H⟩ := H
              replace H : (some t212) = some r := H
              have A71 := Aside0.mk A710
              clear A710
              obtain rfl := Option.some.inj H
              go_wp2_with (first | ((with_reducible refine gate_callee (f := 17) rfl ?_); refine goesL_ (some 154) rfl rfl Try.func17 (by kernel_rfl) rfl #[] rfl (by (try simp only [List.map_toArray, List.map_cons, List.map_nil]); first | done | rfl | (simp only [List.length_drop, List.length_take]; rfl)) ?_; (with_reducible refine (headgatelaw32_awake.calls k2  t212 _ A71.out).mono ?_); rintro e w72 ⟨rfl, hb⟩; refine ⟨_, rfl, ?_⟩; have n0_ := Aside0.mk (blk_below (g := gb207) (o := .cells #[.int .i64 t202, .int .i64 t203, .int .i64 t204] 23 (0, 0)) (by (with_reducible repeat (first | refine blk_drewN ?_ _ | refine blk_drew ?_ | refine blk_alloc ?_ _)); exact BK207.out) hb); have n1_ := Aside0.mk (below_step (by repeat (first | (with_reducible first | exact HB.out | apply below_alloc | apply pw_below_drewN | apply below_drew1 | refine below_set ?_ GE207.out) | exact HB.out)) hb); clear BK207; clear HB; have BK207 := n0_; have HB := n1_; clear n0_ n1_; (try clear hb); (try clear hb2); (try clear hk); (try clear hi)))
              go_ret
              exact ⟨by first | rfl | (simp [errW_none, errW_some] <;> rfl) | (simp only [← hji7, ← hji8]; first | rfl | (simp [errW_none, errW_some] <;> rfl)) | (simp [*, errW_none, errW_some] <;> rfl), by repeat (first | (with_reducible first | exact HB.out | apply below_alloc | apply pw_below_drewN | apply below_drew1 | refine below_set ?_ GE207.out) | exact HB.out)⟩

/-- THE ONE PURE STATEMENT of headgatelaw32_PressureMore: yours. -/
def headgatelaw32_PressureMore.Pure : Prop := ∀ (a0 : Int) (a1 : Int) (a2 : Int), (Lit.int .i64 a0).wf = true → (Lit.int .i64 a1).wf = true → (Lit.int .i64 a2).wf = true → ∃ k, headgatelaw32_PressureMore.f k a0 a1 a2 = some true
theorem headgatelaw32_PressureMore.walk (P : headgatelaw32_PressureMore.Pure) (a0 : Int) (a1 : Int) (a2 : Int) (w : World) (w0 : (Lit.int .i64 a0).wf = true) (w1 : (Lit.int .i64 a1).wf = true) (w2 : (Lit.int .i64 a2).wf = true) :
    Calls Try.prog 4 #[.int .i64 a0, .int .i64 a1, .int .i64 a2] w fun e w' => e = .returned (.bool true) ∧ Below w.heap.size w w' := by
  obtain ⟨k, h⟩ := P a0 a1 a2 w0 w1 w2
  refine (headgatelaw32_PressureMore.calls k a0 a1 a2 true w h).mono ?_
  rintro e w' ⟨rfl, hd⟩
  exact ⟨rfl, hd⟩

/-! ### headgatelaw32_history: function 20 -/
def headgatelaw32_history.l0 : Nat → List Int → List Int → Int → Option (List Int)
  | 0, _, _, _ => none
  | k + 1, x0, x3, x4 => if x4 < (x0.length : Int) then (if x4 < 40 then (if 0 ≤ x4 then ((headgatekit_Mod.f (rd x0 x4) 20).bind fun t224 => (if x3.length < 17592186044416 then (headgatelaw32_history.l0 k x0 (x3 ++ [t224]) (wrap64 (x4 + 1))) else (none))) else (none)) else (some x3)) else (some x3)
def headgatelaw32_history.f (k : Nat) (l0 : List Int) : Option (List Int) := headgatelaw32_history.l0 k l0 ([] : List Int) 0
theorem headgatelaw32_history.mono_l : ∀ k, (∀ y0 y1 y2, LeO (headgatelaw32_history.l0 k y0 y1 y2) (headgatelaw32_history.l0 (k + 1) y0 y1 y2))
  | 0 => fun _ _ _ r h => by simp [headgatelaw32_history.l0] at h
  | k + 1 => by
    have ih0 := headgatelaw32_history.mono_l k
    · intro y0 y1 y2
      unfold headgatelaw32_history.l0
      repeat' first
      | (with_reducible exact ih0 _ _ _)
      | (with_reducible exact LeO.refl _)
      | (with_reducible exact LeO.none _)
      | (with_reducible refine LeO.ite ?_ ?_)
      | (with_reducible refine LeO.bind ?_ (fun _ => ?_))
      | exact ih0 _ _ _
      | exact LeO.none _
      | refine LeO.ite ?_ ?_
      | refine LeO.bind ?_ (fun _ => ?_)
theorem headgatelaw32_history.mono : ∀ a0 k, LeO (headgatelaw32_history.f k a0) (headgatelaw32_history.f (k + 1) a0) := by
  intro a0 k
  have ih0 := headgatelaw32_history.mono_l k
  unfold headgatelaw32_history.f
  repeat' first
      | (with_reducible exact ih0 _ _ _)
      | (with_reducible exact LeO.refl _)
      | (with_reducible exact LeO.none _)
      | (with_reducible refine LeO.ite ?_ ?_)
      | (with_reducible refine LeO.bind ?_ (fun _ => ?_))
      | exact ih0 _ _ _
      | exact LeO.none _
      | refine LeO.ite ?_ ?_
      | refine LeO.bind ?_ (fun _ => ?_)
set_option maxHeartbeats 8000000 in
set_option maxRecDepth 100000 in
theorem headgatelaw32_history.calls (k : Nat) (A0 : Option Addr) (c0 : Nat) (l0 : List Int) (r : List Int) (w : World) (hr0 : Kd.C (Kd.int .i64) w A0 l0.length l0) (hc0 : l0.length ≤ c0) (h : headgatelaw32_history.f k l0 = some r) :
    Calls Try.prog 20 #[.slice A0 l0.length c0] w fun e w' => ∃ v0_ : Value, e = .returned (v0_) ∧ Kd.R (Kd.int .i64) 3 w' w.heap.size (fun _ => True) v0_ r ∧ Below w.heap.size w w' := by
  have HR0 := Aside0.mk hr0
  have HC0 := Aside0.mk hc0
  clear hr0 hc0
  have HB := Aside0.mk (Below.refl w.heap.size w)
  have H : (headgatelaw32_history.l0 k l0 ([] : List Int) 0) = some r := h
  clear h
  have H' := Aside0.mk H
  clear H
  go_enter Try.func20, Try.ntmps20
  go_wp2
  go_loopg [3, 4] k (fun kq v3 v4 w' => ∃ (x3_1 : List Int) (x4_1 : Int), v4 = .int .i64 x4_1 ∧ Aside0 (headgatelaw32_history.l0 kq l0 x3_1 x4_1 = some r) ∧ Aside0 (kq ≤ k) ∧ Aside0 (Kd.R (Kd.int .i64) 3 w' w.heap.size (fun _ => True) v3 x3_1) ∧ Aside0 (Below w.heap.size w w'))
  case atStart => exact ⟨(([] : List Int)), (0), (by first | rfl | (simp; done) | (simp [*]; done)), H', ⟨Nat.le_refl _⟩, ⟨by first | exact Kd.R_nil _ _ _ _ _ | exact Kd.N_nil _ _ _ _ _ | exact Kd.V_nil _ _ _ _ _ | exact Kd.Q_nil _ _ _ _ _ | exact Kd.S_nil _ _ _ _ _⟩, ⟨by repeat (first | (with_reducible first | exact HB.out | apply below_alloc | apply pw_below_drewN | apply below_drew1) | exact HB.out)⟩⟩
  case round =>
    clear H'
    obtain ⟨x3_1, x4_1, rfl, HA, HK1, HO_3, HB⟩ := hrel
    cases gk with
    | zero => exact absurd HA.out (by simp [headgatelaw32_history.l0])
    | succ k1 =>
      have H := HA.out
      clear HA
      simp only [headgatelaw32_history.l0] at H
      by_cases c2 : x4_1 < (l0.length : Int)
      · rw [if_pos c2] at H
        have c2b0 : decide (x4_1 < (l0.length : Int)) = true := decide_eq_true c2
        clear c2
        by_cases c3 : x4_1 < 40
        · rw [if_pos c3] at H
          have c3b0 : decide (x4_1 < 40) = true := decide_eq_true c3
          clear c3
          by_cases c4 : 0 ≤ x4_1
          · rw [if_pos c4] at H
            have c4b0 : decide (0 ≤ x4_1) = true := decide_eq_true c4
            clear c4
            replace H := Option.bind_eq_some_iff.mp H
            obtain ⟨t224, A50, H⟩ := H
            replace H : (if x3_1.length < 17592186044416 then (headgatelaw32_history.l0 k1 l0 (x3_1 ++ [t224]) (wrap64 (x4_1 + 1))) else (none)) = some r := H
            have A5 := Aside0.mk A50
            clear A50
            by_cases c6 : x3_1.length < 17592186044416
            · rw [if_pos c6] at H
              have LMc6 := Aside0.mk c6
              clear c6
              obtain ⟨y225, hy225⟩ : ∃ y_ : List Int, y_ = (x3_1 ++ [t224]) := ⟨_, rfl⟩
              replace H : (headgatelaw32_history.l0 k1 l0 y225 (wrap64 (x4_1 + 1))) = some r := by first | (rw [hy225]; with_reducible exact H) | (have H2_ := (Option.bind_some _ _).symm.trans H; rw [hy225]; with_reducible exact H2_) | (have H2_ := (Option.bind_some _ _).symm.trans H; with_reducible exact H2_) | with_reducible exact H | (rw [hy225]; exact H) | exact H
              have Ny225 := Aside0.mk hy225
              clear hy225
              have H' := Aside0.mk H
              clear H
              have p223 : 0 ≤ (x4_1 : Int) := of_decide_eq_true (by first | (with_reducible assumption) | assumption)
              have q223 : x4_1 < (l0.length : Int) := of_decide_eq_true (by first | (with_reducible assumption) | assumption)
              obtain ⟨ad223, e223, hx223_0⟩ := Kd.at_int HR0.out x4_1 p223 q223
              cases e223
              replace hx223_0 := (HB.out.cell (World.block_lt_of_cell? w _ hx223_0)).trans hx223_0
              replace p223 := eq_true p223
              replace q223 := eq_true q223
              go_wp2_with (first | ((with_reducible refine gate_callee (f := 19) rfl ?_); refine goesL_ (some 20) rfl rfl Try.func19 (by kernel_rfl) rfl #[.int .i64 (rd l0 x4_1), .int .i64 20] rfl (by (try simp only [List.map_toArray, List.map_cons, List.map_nil]); first | done | rfl | (simp only [List.length_drop, List.length_take]; rfl)) ?_; (with_reducible refine (headgatekit_Mod.calls (rd l0 x4_1) 20 t224 _ A5.out).mono ?_); rintro e w' ⟨rfl, ⟨nd, rfl⟩⟩; refine ⟨_, rfl, ?_⟩) | ((with_reducible refine gate_builtin (b := .append) (xs := #[.tmp 15, .tmp 21]) rfl ?_); at_builtin; refine Kd.R_append (Kd.int .i64) (w0 := w) w.heap.size rfl (.tmp 15) (.tmp 21) 36 3 (.int .i64 0) 8 rfl Try.underlying36 info3 rfl (by decide) (by omega) u3 x3_1 t224 [.int .i64 t224] (fun _ => True) (fun _ => False) rfl rfl ?aP (fun _ hk => hk.elim) ?aF ?aO ?aB ?aS ?aL ?_; (case aP => exact rfl); (case aB => exact (by repeat (first | (with_reducible first | exact HB.out | apply below_alloc | apply pw_below_drewN | apply below_drew1) | exact HB.out))); (case aF => exact (fun _ _ => trivial)); (case aO => exact (by (with_reducible repeat (first | apply Kd.R_alloc | apply Kd.R_drewN | apply Kd.R_drew)); exact HO_3.out)); (case aS => exact (below_size (by repeat (first | (with_reducible first | exact HB.out | apply below_alloc | apply pw_below_drewN | apply below_drew1) | exact HB.out)))); (case aL => have := LMc6.out; omega); intro v226 w7 ho hb hg hat; rw [← Ny225.out] at ho; have n0_ := Aside0.mk (hb); have n1_ := Aside0.mk (ho); clear HB; clear HO_3; have HB := n0_; have HO227 := n1_; clear n0_ n1_; clear ho hb hg hat))
              go_roundg k1
              case measure => have := HK1.out; omega
              case rel => exact ⟨(y225), (wrap64 (x4_1 + 1)), (by first | rfl | (simp; done) | (simp [*]; done)), H', ⟨by have := HK1.out; omega⟩, ⟨by (with_reducible repeat (first | apply Kd.R_alloc | apply Kd.R_drewN | apply Kd.R_drew)); exact HO227.out⟩, ⟨by repeat (first | (with_reducible first | exact HB.out | apply below_alloc | apply pw_below_drewN | apply below_drew1) | exact HB.out)⟩⟩
            · rw [if_neg c6] at H
              exact absurd H (by simp)
          · rw [if_neg c4] at H
            exact absurd H (by simp)
        · rw [if_neg c3] at H
          have c3b0 : decide (x4_1 < 40) = false := decide_eq_false c3
          clear c3
          obtain rfl := Option.some.inj H
          go_wp2
          go_ret
          exact ⟨_, by first | rfl | (simp [errW_none, errW_some] <;> rfl) | (simp [*, errW_none, errW_some] <;> rfl), by (with_reducible repeat (first | apply Kd.R_alloc | apply Kd.R_drewN | apply Kd.R_drew)); exact HO_3.out, by repeat (first | (with_reducible first | exact HB.out | apply below_alloc | apply pw_below_drewN | apply below_drew1) | exact HB.out)⟩
      · rw [if_neg c2] at H
        have c2b0 : decide (x4_1 < (l0.length : Int)) = false := decide_eq_false c2
        clear c2
        obtain rfl := Option.some.inj H
        go_wp2
        go_ret
        exact ⟨_, by first | rfl | (simp [errW_none, errW_some] <;> rfl) | (simp [*, errW_none, errW_some] <;> rfl), by (with_reducible repeat (first | apply Kd.R_alloc | apply Kd.R_drewN | apply Kd.R_drew)); exact HO_3.out, by repeat (first | (with_reducible first | exact HB.out | apply below_alloc | apply pw_below_drewN | apply below_drew1) | exact HB.out)⟩

end Go.Proofs.Ytfjfmhkifaiakaa.PA
