-- written by a program of this seat's prover out of the translation; Lean checks it
import Derived.Test.YtompoghbdpfdjaaDoorPAx0
import Derived.Test.YtompoghbdpfdjaaDoorPAx1
import Derived.Test.YtompoghbdpfdjaaDoorPAx3
import Derived.Test.YtompoghbdpfdjaaDoorPAx7
import Derived.Test.YtompoghbdpfdjaaDoorPAx8
namespace Go.Proofs.YtompoghbdpfdjaaDoor.PA
open Go.RowKit Go.Proofs.YtompoghbdpfdjaaDoorW.PrintWords Go.Proofs.YtompoghbdpfdjaaDoorW.PrintLast Go.Proofs.YtompoghbdpfdjaaDoorW.PrintMore
attribute [local go_sem] max2_int min2_int max_two min_two max_three min_three max_four min_four   -- for this text's walks alone
set_option linter.unusedVariables false
set_option linter.unusedSimpArgs false

/-! ### headgatelaw14_PoolAll: function 8 -/
mutual
def headgatelaw14_PoolAll.j0 : Nat → Int → Bool → Int → Bool → Int → List Int → Option (Bool)
  | 0, _, _, _, _, _, _ => none
  | k + 1, x0, x3, x6, x39, x453000, x453001 => if x39 = true then (some false) else (headgatelaw14_PoolAll.l0 k x0 x3 x6 0 (-1) 0 x453000 x453001)
def headgatelaw14_PoolAll.l0 : Nat → Int → Bool → Int → Int → Int → Int → Int → List Int → Option (Bool)
  | 0, _, _, _, _, _, _, _, _ => none
  | k + 1, x0, x3, x6, x8, x9, x10, x453000, x453001 => if x10 < x0 then ((pool_Take.f k x453000 x453001).bind fun bt462 => ((pool_Home.f k x453000 x453001 bt462.2.2.1).bind fun bt469 => (if bt462.2.2.2 = 0 then (if bt469.2.2 = 0 then (if bt462.2.2.1 = x10 then (if bt469.1 < x8 then (some false) else (if bt469.1 = x8 then (if bt469.2.1 ≤ x9 then (some false) else (if bt469.1 ≥ x6 then (some false) else (if bt469.2.1 < 0 then (some false) else (if bt469.2.1 > 7 then (some false) else (headgatelaw14_PoolAll.l0 k x0 x3 x6 bt469.1 bt469.2.1 (wrap64 (x10 + 1)) bt462.1 bt462.2.1))))) else (if bt469.1 ≥ x6 then (some false) else (if bt469.2.1 < 0 then (some false) else (if bt469.2.1 > 7 then (some false) else (headgatelaw14_PoolAll.l0 k x0 x3 x6 bt469.1 bt469.2.1 (wrap64 (x10 + 1)) bt462.1 bt462.2.1)))))) else (some false)) else (some false)) else (some false)))) else ((pool_Take.f k x453000 x453001).bind fun bt455 => (if x3 = true then (if bt455.2.2.2 = 5 then (some (x8 == (wrap64 (x6 - 1)))) else (some false)) else (some false)))
end
def headgatelaw14_PoolAll.f (k : Nat) (a0 : Int) : Option (Bool) := (headgatelaw14_PoolKnown.f).bind fun t445 => ((headgatekit_Mod.f a0 32).bind fun t446 => ((pool_New.f k (wrap64 (1 + t446))).bind fun bt447 => ((pool_Frames.f (wrap64 (1 + t446))).bind fun bt453 => (if bt447.2.2 = 0 then (headgatelaw14_PoolAll.j0 k (wrap64 (1 + t446)) t445 bt453.1 (bt453.2 != 0) bt447.1 bt447.2.1) else (headgatelaw14_PoolAll.j0 k (wrap64 (1 + t446)) t445 bt453.1 true bt447.1 bt447.2.1)))))
theorem headgatelaw14_PoolAll.mono_l : ∀ k, (∀ y0 y1 y2 y3 y4 y5, LeO (headgatelaw14_PoolAll.j0 k y0 y1 y2 y3 y4 y5) (headgatelaw14_PoolAll.j0 (k + 1) y0 y1 y2 y3 y4 y5)) ∧ (∀ y0 y1 y2 y3 y4 y5 y6 y7, LeO (headgatelaw14_PoolAll.l0 k y0 y1 y2 y3 y4 y5 y6 y7) (headgatelaw14_PoolAll.l0 (k + 1) y0 y1 y2 y3 y4 y5 y6 y7))
  | 0 => ⟨fun _ _ _ _ _ _ r h => by simp [headgatelaw14_PoolAll.j0] at h, fun _ _ _ _ _ _ _ _ r h => by simp [headgatelaw14_PoolAll.l0] at h⟩
  | k + 1 => by
    obtain ⟨ih0, ih1⟩ := headgatelaw14_PoolAll.mono_l k
    refine ⟨?_, ?_⟩
    · intro y0 y1 y2 y3 y4 y5
      unfold headgatelaw14_PoolAll.j0
      repeat' first
      | (with_reducible exact ih0 _ _ _ _ _ _)
      | (with_reducible exact ih1 _ _ _ _ _ _ _ _)
      | (with_reducible exact pool_Home.mono _ _ _ _)
      | (with_reducible exact pool_New.mono _ _)
      | (with_reducible exact pool_Take.mono _ _ _)
      | (with_reducible exact LeO.refl _)
      | (with_reducible exact LeO.none _)
      | (with_reducible refine LeO.ite ?_ ?_)
      | (with_reducible refine LeO.bind ?_ (fun _ => ?_))
      | exact ih0 _ _ _ _ _ _
      | exact ih1 _ _ _ _ _ _ _ _
      | exact pool_Home.mono _ _ _ _
      | exact pool_New.mono _ _
      | exact pool_Take.mono _ _ _
      | exact LeO.none _
      | refine LeO.ite ?_ ?_
      | refine LeO.bind ?_ (fun _ => ?_)
    · intro y0 y1 y2 y3 y4 y5 y6 y7
      unfold headgatelaw14_PoolAll.l0
      repeat' first
      | (with_reducible exact ih0 _ _ _ _ _ _)
      | (with_reducible exact ih1 _ _ _ _ _ _ _ _)
      | (with_reducible exact pool_Home.mono _ _ _ _)
      | (with_reducible exact pool_New.mono _ _)
      | (with_reducible exact pool_Take.mono _ _ _)
      | (with_reducible exact LeO.refl _)
      | (with_reducible exact LeO.none _)
      | (with_reducible refine LeO.ite ?_ ?_)
      | (with_reducible refine LeO.bind ?_ (fun _ => ?_))
      | exact ih0 _ _ _ _ _ _
      | exact ih1 _ _ _ _ _ _ _ _
      | exact pool_Home.mono _ _ _ _
      | exact pool_New.mono _ _
      | exact pool_Take.mono _ _ _
      | exact LeO.none _
      | refine LeO.ite ?_ ?_
      | refine LeO.bind ?_ (fun _ => ?_)
theorem headgatelaw14_PoolAll.mono : ∀ a0 k, LeO (headgatelaw14_PoolAll.f k a0) (headgatelaw14_PoolAll.f (k + 1) a0) := by
  intro a0 k
  obtain ⟨ih0, ih1⟩ := headgatelaw14_PoolAll.mono_l k
  unfold headgatelaw14_PoolAll.f
  repeat' first
      | (with_reducible exact ih0 _ _ _ _ _ _)
      | (with_reducible exact ih1 _ _ _ _ _ _ _ _)
      | (with_reducible exact pool_Home.mono _ _ _ _)
      | (with_reducible exact pool_New.mono _ _)
      | (with_reducible exact pool_Take.mono _ _ _)
      | (with_reducible exact LeO.refl _)
      | (with_reducible exact LeO.none _)
      | (with_reducible refine LeO.ite ?_ ?_)
      | (with_reducible refine LeO.bind ?_ (fun _ => ?_))
      | exact ih0 _ _ _ _ _ _
      | exact ih1 _ _ _ _ _ _ _ _
      | exact pool_Home.mono _ _ _ _
      | exact pool_New.mono _ _
      | exact pool_Take.mono _ _ _
      | exact LeO.none _
      | refine LeO.ite ?_ ?_
      | refine LeO.bind ?_ (fun _ => ?_)
set_option maxHeartbeats 8000000 in
set_option maxRecDepth 100000 in
theorem headgatelaw14_PoolAll.calls (k : Nat) (a0 : Int) (r : Bool) (w : World) (h : headgatelaw14_PoolAll.f k a0 = some r) (hT : Aside0 (r = true)) (gc0 : GC w) :
    Calls Tryd.prog 8 #[.int .i64 a0] w fun e w' => e = .returned (.bool r) ∧ Below w.heap.size w w' := by
  have HG := Aside0.mk gc0
  clear gc0
  have hu24 := Tryd.underlying24
  have HB := Aside0.mk (Below.refl w.heap.size w)
  have H : ((headgatelaw14_PoolKnown.f).bind fun t445 => ((headgatekit_Mod.f a0 32).bind fun t446 => ((pool_New.f k (wrap64 (1 + t446))).bind fun bt447 => ((pool_Frames.f (wrap64 (1 + t446))).bind fun bt453 => (if bt447.2.2 = 0 then (headgatelaw14_PoolAll.j0 k (wrap64 (1 + t446)) t445 bt453.1 (bt453.2 != 0) bt447.1 bt447.2.1) else (headgatelaw14_PoolAll.j0 k (wrap64 (1 + t446)) t445 bt453.1 true bt447.1 bt447.2.1)))))) = some r := h
  clear h
  replace H := Option.bind_eq_some_iff.mp H
  obtain ⟨t445, A20, H⟩ := H
  replace H : ((headgatekit_Mod.f a0 32).bind fun t446 => ((pool_New.f k (wrap64 (1 + t446))).bind fun bt447 => ((pool_Frames.f (wrap64 (1 + t446))).bind fun bt453 => (if bt447.2.2 = 0 then (headgatelaw14_PoolAll.j0 k (wrap64 (1 + t446)) t445 bt453.1 (bt453.2 != 0) bt447.1 bt447.2.1) else (headgatelaw14_PoolAll.j0 k (wrap64 (1 + t446)) t445 bt453.1 true bt447.1 bt447.2.1))))) = some r := H
  have A2 := Aside0.mk A20
  clear A20
  replace H := Option.bind_eq_some_iff.mp H
  obtain ⟨t446, A30, H⟩ := H
  replace H : ((pool_New.f k (wrap64 (1 + t446))).bind fun bt447 => ((pool_Frames.f (wrap64 (1 + t446))).bind fun bt453 => (if bt447.2.2 = 0 then (headgatelaw14_PoolAll.j0 k (wrap64 (1 + t446)) t445 bt453.1 (bt453.2 != 0) bt447.1 bt447.2.1) else (headgatelaw14_PoolAll.j0 k (wrap64 (1 + t446)) t445 bt453.1 true bt447.1 bt447.2.1)))) = some r := H
  have A3 := Aside0.mk A30
  clear A30
  replace H := Option.bind_eq_some_iff.mp H
  obtain ⟨⟨t447, t448, t451⟩, A40, H⟩ := H
  replace H : ((pool_Frames.f (wrap64 (1 + t446))).bind fun bt453 => (if t451 = 0 then (headgatelaw14_PoolAll.j0 k (wrap64 (1 + t446)) t445 bt453.1 (bt453.2 != 0) t447 t448) else (headgatelaw14_PoolAll.j0 k (wrap64 (1 + t446)) t445 bt453.1 true t447 t448))) = some r := H
  have A4 := Aside0.mk A40
  clear A40
  replace H := Option.bind_eq_some_iff.mp H
  obtain ⟨⟨t453, t454⟩, A50, H⟩ := H
  replace H : (if t451 = 0 then (headgatelaw14_PoolAll.j0 k (wrap64 (1 + t446)) t445 t453 (t454 != 0) t447 t448) else (headgatelaw14_PoolAll.j0 k (wrap64 (1 + t446)) t445 t453 true t447 t448)) = some r := H
  have A5 := Aside0.mk A50
  clear A50
  have HC6 := Aside0.mk H
  clear H
  go_enter Tryd.func8, Tryd.ntmps8
  go_upto_region 5 with (first | ((with_reducible refine gate_callee (f := 6) rfl ?_); refine goesL_ (some 20) rfl rfl Tryd.func6 (by kernel_rfl) rfl #[] rfl (by (try simp only [List.map_toArray, List.map_cons, List.map_nil]); first | done | rfl | (simp only [List.length_drop, List.length_take]; rfl)) ?_; (with_reducible refine (headgatelaw14_PoolKnown.calls  t445 _ A2.out (gcB HG.out (by repeat (first | (with_reducible first | exact HB.out | apply below_alloc | apply pw_below_drewN | apply below_drew1) | exact HB.out)))).mono ?_); rintro e w7 ⟨rfl, hb⟩; refine ⟨_, rfl, ?_⟩; have n0_ := Aside0.mk (below_step (by repeat (first | (with_reducible first | exact HB.out | apply below_alloc | apply pw_below_drewN | apply below_drew1) | exact HB.out)) hb); clear HB; have HB := n0_; clear n0_; (try clear hb); (try clear hb2); (try clear hk); (try clear hi)) | ((with_reducible refine gate_callee (f := 32) rfl ?_); refine goesL_ (some 22) rfl rfl Tryd.func32 (by kernel_rfl) rfl #[.int .i64 a0, .int .i64 32] rfl (by (try simp only [List.map_toArray, List.map_cons, List.map_nil]); first | done | rfl | (simp only [List.length_drop, List.length_take]; rfl)) ?_; (with_reducible refine (headgatekit_Mod.calls a0 32 t446 _ A3.out).mono ?_); rintro e w' ⟨rfl, ⟨nd, rfl⟩⟩; refine ⟨_, rfl, ?_⟩; (try (rw [drewN_self w7]; generalize hq_ : World.drewN w7 _ = w7; have n0_ : Aside0 (Below w.heap.size w w7) := ⟨by rw [← hq_]; exact (by repeat (first | (with_reducible first | exact HB.out | apply below_alloc | apply pw_below_drewN | apply below_drew1) | exact HB.out))⟩; clear HB hq_; have HB := n0_; clear n0_))) | ((with_reducible refine gate_callee (f := 9) rfl ?_); refine goesL_ (some 26) rfl rfl Tryd.func9 (by kernel_rfl) rfl #[.int .i64 (wrap64 (1 + t446))] rfl (by (try simp only [List.map_toArray, List.map_cons, List.map_nil]); first | done | rfl | (simp only [List.length_drop, List.length_take]; rfl)) ?_; (with_reducible refine (pool_New.calls k (wrap64 (1 + t446)) t447 t448 t451 _ A4.out).mono ?_); rintro e w8 ⟨v449, rfl, ho0, hb⟩; refine ⟨_, rfl, ?_⟩; have n0_ := Aside0.mk (Kd.R_lower ho0 (below_size (by repeat (first | (with_reducible first | exact HB.out | apply below_alloc | apply pw_below_drewN | apply below_drew1) | exact HB.out)))); have n1_ := Aside0.mk (below_step (by repeat (first | (with_reducible first | exact HB.out | apply below_alloc | apply pw_below_drewN | apply below_drew1) | exact HB.out)) hb); clear HB; have HO450 := n0_; have HB := n1_; clear n0_ n1_; (try clear hb); (try clear hb2); (try clear hk); (try clear hi); (try clear ho0)) | ((with_reducible refine gate_dst (N := 4) rfl ?_); refine box_event ?hg (N := 4) ?hd (cs := #[.int .i64 0, .slice none 0 0]) (t := 24) ?hr ?_; (case hd => rfl); (case hg => rfl); (case hr => first | (go_simp; done) | (go_simp; rfl)); intro gb452 hg w9 hbox hb; have n0_ := Aside0.mk (Kd.R_below (by (with_reducible repeat (first | apply Kd.R_alloc | apply Kd.R_drewN | apply Kd.R_drew)); exact HO450.out) hb); have n1_ := Aside0.mk (below_step (by repeat (first | (with_reducible first | exact HB.out | apply below_alloc | apply pw_below_drewN | apply below_drew1) | exact HB.out)) hb); have n2_ := Aside0.mk (hbox); have n3_ := Aside0.mk ((by rw [hg]; exact (below_size (by repeat (first | (with_reducible first | exact HB.out | apply below_alloc | apply pw_below_drewN | apply below_drew1) | exact HB.out))) : w.heap.size ≤ gb452)); have n4_ := Aside0.mk ((by rw [hg]; exact (below_size (by repeat (first | (with_reducible first | exact HB.out | apply below_alloc | apply pw_below_drewN | apply below_drew1) | exact HB.out))) : w.heap.size ≤ gb452)); clear HO450; clear HB; have HO450 := n0_; have HB := n1_; have BK452 := n2_; have GW452 := n3_; have GE452 := n4_; clear n0_ n1_ n2_ n3_ n4_; clear hb hbox hg; have hcz10_0 : w9.cell? ⟨gb452, 0, none⟩ = some (.int .i64 0) := (blk_cell BK452.out 0).trans rfl; have hcz10_1 : w9.cell? ⟨gb452, 1, none⟩ = some (.slice none 0 0) := (blk_cell BK452.out 1).trans rfl; have hfz10_0 := blk_frozen BK452.out 0; have hfz10_1 := blk_frozen BK452.out 1; obtain ⟨Ao11, co11, eo11⟩ := Kd.R_slice HO450.out; subst eo11) | ((with_reducible refine gate_callee (f := 11) rfl ?_); refine goesL_ (some 31) rfl rfl Tryd.func11 (by kernel_rfl) rfl #[.int .i64 (wrap64 (1 + t446))] rfl (by (try simp only [List.map_toArray, List.map_cons, List.map_nil]); first | done | rfl | (simp only [List.length_drop, List.length_take]; rfl)) ?_; (with_reducible refine (pool_Frames.calls (wrap64 (1 + t446)) t453 t454 _ A5.out).mono ?_); rintro e w12 ⟨rfl, hb⟩; refine ⟨_, rfl, ?_⟩; have n0_ := Aside0.mk (Kd.R_below (by (with_reducible repeat (first | apply Kd.R_alloc | apply Kd.R_drewN | apply Kd.R_drew)); exact (Kd.R_mono (Kd.R_far (p := ⟨gb452, 1, none⟩) (Kd.R_far (p := ⟨gb452, 0, none⟩) (Kd.R_types HO450.out BK452.out (by decide)) (fun _ hk => hk.2) (.int .i64 t447)) (fun _ hk => hk.2) (.slice Ao11 t448.length co11)) (fun _ h_ => h_.1))) hb); have n1_ := Aside0.mk (blk_below (g := gb452) (o := .cells #[.int .i64 t447, .slice Ao11 t448.length co11] 24 (0, 0)) (by (with_reducible repeat (first | refine blk_drewN ?_ _ | refine blk_drew ?_ | refine blk_alloc ?_ _)); refine blk_put (cs := #[.int .i64 t447, .slice none 0 0]) ?_ 1 _ rfl; (with_reducible repeat (first | refine blk_drewN ?_ _ | refine blk_drew ?_ | refine blk_alloc ?_ _)); refine blk_put (cs := #[.int .i64 0, .slice none 0 0]) ?_ 0 _ rfl; (with_reducible repeat (first | refine blk_drewN ?_ _ | refine blk_drew ?_ | refine blk_alloc ?_ _)); exact BK452.out) hb); have n2_ := Aside0.mk (below_step (by repeat (first | (with_reducible first | exact HB.out | apply below_alloc | apply pw_below_drewN | apply below_drew1 | refine below_set ?_ GE452.out) | exact HB.out)) hb); clear HO450; clear BK452; clear HB; have HO450 := n0_; have BK452 := n1_; have HB := n2_; clear n0_ n1_ n2_; (try clear hb); (try clear hb2); (try clear hk); (try clear hi)))
  (try simp only [Act.put, List.setIfInBounds_toArray, List.set_cons_zero, List.set_cons_succ])
  go_cut [39] (fun v39 wc => ∃ (kq : Nat) (x39_5 : Bool), v39 = .bool x39_5 ∧ Aside0 (headgatelaw14_PoolAll.j0 kq (wrap64 (1 + t446)) t445 t453 x39_5 t447 t448 = some r) ∧ Aside0 (kq ≤ k) ∧ Aside0 (Kd.R (Kd.int .i64) 3 wc w.heap.size (fun _ => True) (.slice Ao11 t448.length co11) t448) ∧ Aside0 (wc.heap[gb452]? = some (.cells #[.int .i64 t447, (.slice Ao11 t448.length co11)] 24 (0, 0))) ∧ Aside0 (Below w.heap.size w wc))
  case first =>
    have H := HC6.out
    clear HC6
    by_cases c13 : t451 = 0
    · rw [if_pos c13] at H
      have c13b0 : (t451 == 0) = true := beq_iff_eq.mpr c13
      have c13b1 : (t451 != 0) = false := bne_eq_false_iff_eq.mpr c13
      clear c13
      (first | rw [c13b0] | (simp only [i64_w, i32_w]; rw [c13b0]) | skip)
      have H' := Aside0.mk H
      clear H
      go_wp2
      go_meet
      case rel => exact ⟨_, ((t454 != 0)), (by first | rfl | (simp; done) | (simp [*]; done)), H', ⟨by first | omega | exact Nat.le_refl _⟩, ⟨by (with_reducible repeat (first | apply Kd.R_alloc | apply Kd.R_drewN | apply Kd.R_drew)); exact HO450.out⟩, ⟨by (with_reducible repeat (first | refine blk_drewN ?_ _ | refine blk_drew ?_ | refine blk_alloc ?_ _)); exact BK452.out⟩, ⟨by repeat (first | (with_reducible first | exact HB.out | apply below_alloc | apply pw_below_drewN | apply below_drew1 | refine below_set ?_ GE452.out) | exact HB.out)⟩⟩
    · rw [if_neg c13] at H
      have c13b0 : (t451 == 0) = false := beq_eq_false_iff_ne.mpr c13
      have c13b1 : (t451 != 0) = true := bne_iff_ne.mpr c13
      (first | rw [c13b0] | (simp only [i64_w, i32_w]; rw [c13b0]) | skip)
      have H' := Aside0.mk H
      clear H
      go_wp2
      go_meet
      case rel => exact ⟨_, (true), (by first | rfl | (simp; done) | (simp [*]; done)), H', ⟨by first | omega | exact Nat.le_refl _⟩, ⟨by (with_reducible repeat (first | apply Kd.R_alloc | apply Kd.R_drewN | apply Kd.R_drew)); exact HO450.out⟩, ⟨by (with_reducible repeat (first | refine blk_drewN ?_ _ | refine blk_drew ?_ | refine blk_alloc ?_ _)); exact BK452.out⟩, ⟨by repeat (first | (with_reducible first | exact HB.out | apply below_alloc | apply pw_below_drewN | apply below_drew1 | refine below_set ?_ GE452.out) | exact HB.out)⟩⟩
  case rest =>
    clear HC6
    try clear c1
    try clear p2
    try clear c3
    try clear c6
    try clear p6
    try clear c8
    try clear c9
    try clear c11
    try clear c13
    try clear c13b0
    try clear c13b1
    try clear hcz10_0
    try clear hcz10_1
    try clear hfz10_0
    try clear hfz10_1
    obtain ⟨kq, x39_5, rfl, HA, HJ5, HO_453001, BK452, HB⟩ := hcut
    cases kq with
    | zero => exact absurd HA.out (by simp [headgatelaw14_PoolAll.j0])
    | succ kj5 =>
      have H := HA.out
      clear HA
      simp only [headgatelaw14_PoolAll.j0] at H
      by_cases c14 : x39_5 = true
      · subst c14
        have H1 : (some false) = some r := by rw [if_pos rfl] at H; exact H
        clear H
        have H := H1
        clear H1
        exact absurd ((Option.some.inj H).trans hT.out) (by decide)
      · replace c14 := Bool.eq_false_iff.mpr c14
        subst c14
        have H1 : (headgatelaw14_PoolAll.l0 kj5 (wrap64 (1 + t446)) t445 t453 0 (-1) 0 t447 t448) = some r := by rw [if_neg (show ¬ (false = true) by decide)] at H; exact H
        clear H
        have H := H1
        clear H1
        have H' := Aside0.mk H
        clear H
        go_wp2
        go_loopg [8, 9, 10] kj5 (fun kq v8 v9 v10 w' => ∃ (x8_2 : Int) (x9_2 : Int) (x10_2 : Int) (x453000_2 : Int) (x453001_2 : List Int) (u453001 : Value), v8 = .int .i64 x8_2 ∧ v9 = .int .i64 x9_2 ∧ v10 = .int .i64 x10_2 ∧ Aside0 (headgatelaw14_PoolAll.l0 kq (wrap64 (1 + t446)) t445 t453 x8_2 x9_2 x10_2 x453000_2 x453001_2 = some r) ∧ Aside0 (kq ≤ kj5) ∧ Aside0 (Kd.R (Kd.int .i64) 3 w' w.heap.size (fun _ => True) u453001 x453001_2) ∧ Aside0 (w'.heap[gb452]? = some (.cells #[.int .i64 x453000_2, u453001] 24 (0, 0))) ∧ Aside0 (Below w.heap.size w w'))
        case atStart => exact ⟨(0), ((-1)), (0), (t447), (t448), (.slice Ao11 t448.length co11), (by first | rfl | (simp; done) | (simp [*]; done)), (by first | rfl | (simp; done) | (simp [*]; done)), (by first | rfl | (simp; done) | (simp [*]; done)), H', ⟨Nat.le_refl _⟩, ⟨by (with_reducible repeat (first | apply Kd.R_alloc | apply Kd.R_drewN | apply Kd.R_drew)); exact HO_453001.out⟩, ⟨by (with_reducible repeat (first | refine blk_drewN ?_ _ | refine blk_drew ?_ | refine blk_alloc ?_ _)); exact BK452.out⟩, ⟨by repeat (first | (with_reducible first | exact HB.out | apply below_alloc | apply pw_below_drewN | apply below_drew1 | refine below_set ?_ GE452.out) | exact HB.out)⟩⟩
        case round =>
          clear H'
          try clear c1
          try clear p2
          try clear c3
          try clear c6
          try clear p6
          try clear c8
          try clear c9
          try clear c11
          try clear c13
          try clear c13b0
          try clear c13b1
          try clear c14
          try clear hcz10_0
          try clear hcz10_1
          try clear hfz10_0
          try clear hfz10_1
          try clear p2
          try clear p6
          obtain ⟨x8_2, x9_2, x10_2, x453000_2, x453001_2, u453001, rfl, rfl, rfl, HA, HK2, HO_453001, BK452, HB⟩ := hrel
          cases gk with
          | zero => exact absurd HA.out (by simp [headgatelaw14_PoolAll.l0])
          | succ k2 =>
            have H := HA.out
            clear HA
            simp only [headgatelaw14_PoolAll.l0] at H
            by_cases c15 : x10_2 < (wrap64 (1 + t446))
            · rw [if_pos c15] at H
              have c15b0 : decide (x10_2 < (wrap64 (1 + t446))) = true := decide_eq_true c15
              clear c15
              replace H := Option.bind_eq_some_iff.mp H
              obtain ⟨⟨t462, t463, t466, t467⟩, A160, H⟩ := H
              replace H : ((pool_Home.f k2 x453000_2 x453001_2 t466).bind fun bt469 => (if t467 = 0 then (if bt469.2.2 = 0 then (if t466 = x10_2 then (if bt469.1 < x8_2 then (some false) else (if bt469.1 = x8_2 then (if bt469.2.1 ≤ x9_2 then (some false) else (if bt469.1 ≥ t453 then (some false) else (if bt469.2.1 < 0 then (some false) else (if bt469.2.1 > 7 then (some false) else (headgatelaw14_PoolAll.l0 k2 (wrap64 (1 + t446)) t445 t453 bt469.1 bt469.2.1 (wrap64 (x10_2 + 1)) t462 t463))))) else (if bt469.1 ≥ t453 then (some false) else (if bt469.2.1 < 0 then (some false) else (if bt469.2.1 > 7 then (some false) else (headgatelaw14_PoolAll.l0 k2 (wrap64 (1 + t446)) t445 t453 bt469.1 bt469.2.1 (wrap64 (x10_2 + 1)) t462 t463)))))) else (some false)) else (some false)) else (some false))) = some r := H
              have A16 := Aside0.mk A160
              clear A160
              replace H := Option.bind_eq_some_iff.mp H
              obtain ⟨⟨t469, t470, t471⟩, A170, H⟩ := H
              replace H : (if t467 = 0 then (if t471 = 0 then (if t466 = x10_2 then (if t469 < x8_2 then (some false) else (if t469 = x8_2 then (if t470 ≤ x9_2 then (some false) else (if t469 ≥ t453 then (some false) else (if t470 < 0 then (some false) else (if t470 > 7 then (some false) else (headgatelaw14_PoolAll.l0 k2 (wrap64 (1 + t446)) t445 t453 t469 t470 (wrap64 (x10_2 + 1)) t462 t463))))) else (if t469 ≥ t453 then (some false) else (if t470 < 0 then (some false) else (if t470 > 7 then (some false) else (headgatelaw14_PoolAll.l0 k2 (wrap64 (1 + t446)) t445 t453 t469 t470 (wrap64 (x10_2 + 1)) t462 t463)))))) else (some false)) else (some false)) else (some false)) = some r := H
              have A17 := Aside0.mk A170
              clear A170
              by_cases c18 : t467 = 0
              · rw [if_pos c18] at H
                have c18b0 : (t467 == 0) = true := beq_iff_eq.mpr c18
                have c18b1 : (t467 != 0) = false := bne_eq_false_iff_eq.mpr c18
                clear c18
                by_cases c19 : t471 = 0
                · rw [if_pos c19] at H
                  have c19b0 : (t471 == 0) = true := beq_iff_eq.mpr c19
                  have c19b1 : (t471 != 0) = false := bne_eq_false_iff_eq.mpr c19
                  clear c19
                  by_cases c20 : t466 = x10_2
                  · rw [if_pos c20] at H
                    have c20b0 : (t466 == x10_2) = true := beq_iff_eq.mpr c20
                    have c20b1 : (t466 != x10_2) = false := bne_eq_false_iff_eq.mpr c20
                    clear c20
                    by_cases c21 : t469 < x8_2
                    · rw [if_pos c21] at H
                      have c21b0 : decide (t469 < x8_2) = true := decide_eq_true c21
                      clear c21
                      exact absurd ((Option.some.inj H).trans hT.out) (by decide)
                    · rw [if_neg c21] at H
                      have c21b0 : decide (t469 < x8_2) = false := decide_eq_false c21
                      clear c21
                      by_cases c22 : t469 = x8_2
                      · rw [if_pos c22] at H
                        have c22b0 : (t469 == x8_2) = true := beq_iff_eq.mpr c22
                        have c22b1 : (t469 != x8_2) = false := bne_eq_false_iff_eq.mpr c22
                        clear c22
                        by_cases c23 : t470 ≤ x9_2
                        · rw [if_pos c23] at H
                          have c23b0 : decide (t470 ≤ x9_2) = true := decide_eq_true c23
                          clear c23
                          exact absurd ((Option.some.inj H).trans hT.out) (by decide)
                        · rw [if_neg c23] at H
                          have c23b0 : decide (t470 ≤ x9_2) = false := decide_eq_false c23
                          clear c23
                          by_cases c24 : t469 ≥ t453
                          · rw [if_pos c24] at H
                            have c24b0 : decide (t453 ≤ t469) = true := decide_eq_true c24
                            clear c24
                            exact absurd ((Option.some.inj H).trans hT.out) (by decide)
                          · rw [if_neg c24] at H
                            have c24b0 : decide (t453 ≤ t469) = false := decide_eq_false c24
                            clear c24
                            by_cases c25 : t470 < 0
                            · rw [if_pos c25] at H
                              have c25b0 : decide (t470 < 0) = true := decide_eq_true c25
                              clear c25
                              exact absurd ((Option.some.inj H).trans hT.out) (by decide)
                            · rw [if_neg c25] at H
                              have c25b0 : decide (t470 < 0) = false := decide_eq_false c25
                              clear c25
                              by_cases c26 : t470 > 7
                              · rw [if_pos c26] at H
                                have c26b0 : decide (7 < t470) = true := decide_eq_true c26
                                clear c26
                                exact absurd ((Option.some.inj H).trans hT.out) (by decide)
                              · rw [if_neg c26] at H
                                have c26b0 : decide (7 < t470) = false := decide_eq_false c26
                                clear c26
                                have H' := Aside0.mk H
                                clear H
                                have hcz27_0 : wr.cell? ⟨gb452, 0, none⟩ = some (.int .i64 x453000_2) := (blk_cell BK452.out 0).trans rfl
                                have hcz27_1 : wr.cell? ⟨gb452, 1, none⟩ = some (u453001) := (blk_cell BK452.out 1).trans rfl
                                have hfz27_0 := blk_frozen BK452.out 0
                                have hfz27_1 := blk_frozen BK452.out 1
                                obtain ⟨Ao28, co28, eo28⟩ := Kd.R_slice HO_453001.out
                                subst eo28
                                try go_wp2_with (first | ((with_reducible refine gate_callee (f := 18) rfl ?_); refine goesL_ (some 47) rfl rfl Tryd.func18 (by kernel_rfl) rfl #[.agg #[.int .i64 x453000_2, .slice Ao28 x453001_2.length co28]] rfl (by (try simp only [List.map_toArray, List.map_cons, List.map_nil]); first | done | rfl | (simp only [List.length_drop, List.length_take]; rfl)) ?_; (with_reducible refine (pool_Take.calls k2 x453000_2 _ _ x453001_2 t462 t463 t466 t467 _ ?side1 ?side2 A16.out).mono ?_); (case side1 => repeat (first | exact (Kd.R_reads' HO_453001.out).2.2 | (with_reducible refine Kd.C_alloc ?_ _) | (with_reducible refine Kd.C_drewN ?_ _) | (with_reducible refine Kd.C_drew ?_))); (case side2 => exact (Kd.R_reads' HO_453001.out).2.1); rintro e w29 ⟨v464, rfl, ho0, hb⟩; refine ⟨_, rfl, ?_⟩; have n0_ := Aside0.mk (Kd.R_elder' (by (with_reducible repeat (first | apply Kd.R_alloc | apply Kd.R_drewN | apply Kd.R_drew)); exact HO_453001.out) (Kd.R_base ho0) hb); have n1_ := Aside0.mk (Kd.R_lower (Kd.R_new' ho0 (Kd.R_lt (by (with_reducible repeat (first | apply Kd.R_alloc | apply Kd.R_drewN | apply Kd.R_drew)); exact HO_453001.out))) (below_size (by repeat (first | (with_reducible first | exact HB.out | apply below_alloc | apply pw_below_drewN | apply below_drew1 | refine below_set ?_ GE452.out) | exact HB.out)))); have n2_ := Aside0.mk (blk_below (g := gb452) (o := .cells #[.int .i64 x453000_2, .slice Ao28 x453001_2.length co28] 24 (0, 0)) (by (with_reducible repeat (first | refine blk_drewN ?_ _ | refine blk_drew ?_ | refine blk_alloc ?_ _)); exact BK452.out) hb); have n3_ := Aside0.mk (below_step (by repeat (first | (with_reducible first | exact HB.out | apply below_alloc | apply pw_below_drewN | apply below_drew1 | refine below_set ?_ GE452.out) | exact HB.out)) hb); clear HO_453001; clear BK452; clear HB; have HO_453001 := n0_; have HO465 := n1_; have BK452 := n2_; have HB := n3_; clear n0_ n1_ n2_ n3_; (try clear hb); (try clear hb2); (try clear hk); (try clear hi); (try clear ho0)) | ((with_reducible refine gate_dst (N := 11) rfl ?_); refine box_event ?hg (N := 11) ?hd (cs := #[.int .i64 0, .slice none 0 0]) (t := 24) ?hr ?_; (case hd => rfl); (case hg => rfl); (case hr => first | (go_simp; done) | (go_simp; rfl)); intro gb468 hg w30 hbox hb; have n0_ := Aside0.mk (Kd.R_below (by (with_reducible repeat (first | apply Kd.R_alloc | apply Kd.R_drewN | apply Kd.R_drew)); exact HO_453001.out) hb); have n1_ := Aside0.mk (Kd.R_below (by (with_reducible repeat (first | apply Kd.R_alloc | apply Kd.R_drewN | apply Kd.R_drew)); exact HO465.out) hb); have n2_ := Aside0.mk (blk_below (g := gb452) (o := .cells #[.int .i64 x453000_2, .slice Ao28 x453001_2.length co28] 24 (0, 0)) (by (with_reducible repeat (first | refine blk_drewN ?_ _ | refine blk_drew ?_ | refine blk_alloc ?_ _)); exact BK452.out) hb); have n3_ := Aside0.mk (below_step (by repeat (first | (with_reducible first | exact HB.out | apply below_alloc | apply pw_below_drewN | apply below_drew1 | refine below_set ?_ GE452.out) | exact HB.out)) hb); have n4_ := Aside0.mk (hbox); have n5_ := Aside0.mk ((by rw [hg]; exact (below_size (by repeat (first | (with_reducible first | exact HB.out | apply below_alloc | apply pw_below_drewN | apply below_drew1 | refine below_set ?_ GE452.out) | exact HB.out))) : w.heap.size ≤ gb468)); have n6_ := Aside0.mk ((by rw [hg]; exact (below_size (by repeat (first | (with_reducible first | exact HB.out | apply below_alloc | apply pw_below_drewN | apply below_drew1 | refine below_set ?_ GE452.out) | exact HB.out))) : w.heap.size ≤ gb468)); have n7_ := Aside0.mk ((by rw [hg]; exact Nat.ne_of_lt (blk_lt (g := gb452) (o := .cells #[.int .i64 x453000_2, .slice Ao28 x453001_2.length co28] 24 (0, 0)) (by (with_reducible repeat (first | refine blk_drewN ?_ _ | refine blk_drew ?_ | refine blk_alloc ?_ _)); exact BK452.out)) : gb452 ≠ gb468)); have n8_ := Aside0.mk ((by rw [hg]; exact Nat.ne_of_gt (blk_lt (g := gb452) (o := .cells #[.int .i64 x453000_2, .slice Ao28 x453001_2.length co28] 24 (0, 0)) (by (with_reducible repeat (first | refine blk_drewN ?_ _ | refine blk_drew ?_ | refine blk_alloc ?_ _)); exact BK452.out)) : gb468 ≠ gb452)); clear HO_453001; clear HO465; clear BK452; clear HB; have HO_453001 := n0_; have HO465 := n1_; have BK452 := n2_; have HB := n3_; have BK468 := n4_; have GW468 := n5_; have GE468 := n6_; have NB452_468 := n7_; have NB468_452 := n8_; clear n0_ n1_ n2_ n3_ n4_ n5_ n6_ n7_ n8_; clear hb hbox hg; have hnb31 := NB468_452.out; have hnc31 := NB452_468.out; have hcz32_0 : w30.cell? ⟨gb468, 0, none⟩ = some (.int .i64 0) := (blk_cell BK468.out 0).trans rfl; have hcz32_1 : w30.cell? ⟨gb468, 1, none⟩ = some (.slice none 0 0) := (blk_cell BK468.out 1).trans rfl; have hfz32_0 := blk_frozen BK468.out 0; have hfz32_1 := blk_frozen BK468.out 1; obtain ⟨Ao33, co33, eo33⟩ := Kd.R_slice HO465.out; subst eo33; have hcz34_0 : w30.cell? ⟨gb452, 0, none⟩ = some (.int .i64 x453000_2) := (blk_cell BK452.out 0).trans rfl; have hcz34_1 : w30.cell? ⟨gb452, 1, none⟩ = some (.slice Ao28 x453001_2.length co28) := (blk_cell BK452.out 1).trans rfl; have hfz34_0 := blk_frozen BK452.out 0; have hfz34_1 := blk_frozen BK452.out 1) | ((with_reducible refine gate_callee (f := 26) rfl ?_); refine goesL_ (some 54) rfl rfl Tryd.func26 (by kernel_rfl) rfl #[.agg #[.int .i64 x453000_2, .slice Ao28 x453001_2.length co28], .int .i64 t466] rfl (by (try simp only [List.map_toArray, List.map_cons, List.map_nil]); first | done | rfl | (simp only [List.length_drop, List.length_take]; rfl)) ?_; (with_reducible refine (pool_Home.calls k2 x453000_2 _ _ x453001_2 t466 t469 t470 t471 _ ?side1 ?side2 A17.out).mono ?_); (case side1 => refine (Kd.R_reads' (e := 3) (base := w.heap.size) (ok := fun k_ => (True ∧ some k_ ≠ (.slice Ao33 t463.length co33 : Value).ownBlock)) (n := x453001_2.length) (c := co28) ?_).2.2; exact (by (with_reducible repeat (first | apply Kd.R_alloc | apply Kd.R_drewN | apply Kd.R_drew)); exact (Kd.R_mono (Kd.R_far (p := ⟨gb468, 1, none⟩) (Kd.R_far (p := ⟨gb468, 0, none⟩) (Kd.R_types HO_453001.out BK468.out (by decide)) (fun _ hk => hk.2) (.int .i64 t462)) (fun _ hk => hk.2) (.slice Ao33 t463.length co33)) (fun _ h_ => h_.1)))); (case side2 => exact (Kd.R_reads' HO_453001.out).2.1); rintro e w35 ⟨rfl, hb⟩; refine ⟨_, rfl, ?_⟩; have n0_ := Aside0.mk (Kd.R_below (by (with_reducible repeat (first | apply Kd.R_alloc | apply Kd.R_drewN | apply Kd.R_drew)); exact (Kd.R_mono (Kd.R_far (p := ⟨gb468, 1, none⟩) (Kd.R_far (p := ⟨gb468, 0, none⟩) (Kd.R_types HO_453001.out BK468.out (by decide)) (fun _ hk => hk.2) (.int .i64 t462)) (fun _ hk => hk.2) (.slice Ao33 t463.length co33)) (fun _ h_ => h_.1))) hb); have n1_ := Aside0.mk (Kd.R_below (by (with_reducible repeat (first | apply Kd.R_alloc | apply Kd.R_drewN | apply Kd.R_drew)); exact (Kd.R_mono (Kd.R_far (p := ⟨gb468, 1, none⟩) (Kd.R_far (p := ⟨gb468, 0, none⟩) (Kd.R_types HO465.out BK468.out (by decide)) (fun _ hk => hk.2) (.int .i64 t462)) (fun _ hk => hk.2) (.slice Ao33 t463.length co33)) (fun _ h_ => h_.1))) hb); have n2_ := Aside0.mk (blk_below (g := gb452) (o := .cells #[.int .i64 x453000_2, .slice Ao28 x453001_2.length co28] 24 (0, 0)) (by (with_reducible repeat (first | refine blk_drewN ?_ _ | refine blk_drew ?_ | refine blk_alloc ?_ _)); refine blk_far ?_ NB452_468.out _; (with_reducible repeat (first | refine blk_drewN ?_ _ | refine blk_drew ?_ | refine blk_alloc ?_ _)); refine blk_far ?_ NB452_468.out _; (with_reducible repeat (first | refine blk_drewN ?_ _ | refine blk_drew ?_ | refine blk_alloc ?_ _)); exact BK452.out) hb); have n3_ := Aside0.mk (blk_below (g := gb468) (o := .cells #[.int .i64 t462, .slice Ao33 t463.length co33] 24 (0, 0)) (by (with_reducible repeat (first | refine blk_drewN ?_ _ | refine blk_drew ?_ | refine blk_alloc ?_ _)); refine blk_put (cs := #[.int .i64 t462, .slice none 0 0]) ?_ 1 _ rfl; (with_reducible repeat (first | refine blk_drewN ?_ _ | refine blk_drew ?_ | refine blk_alloc ?_ _)); refine blk_put (cs := #[.int .i64 0, .slice none 0 0]) ?_ 0 _ rfl; (with_reducible repeat (first | refine blk_drewN ?_ _ | refine blk_drew ?_ | refine blk_alloc ?_ _)); exact BK468.out) hb); have n4_ := Aside0.mk (below_step (by repeat (first | (with_reducible first | exact HB.out | apply below_alloc | apply pw_below_drewN | apply below_drew1 | refine below_set ?_ GE452.out | refine below_set ?_ GE468.out) | exact HB.out)) hb); clear HO_453001; clear HO465; clear BK452; clear BK468; clear HB; have HO_453001 := n0_; have HO465 := n1_; have BK452 := n2_; have BK468 := n3_; have HB := n4_; clear n0_ n1_ n2_ n3_ n4_; (try clear hb); (try clear hb2); (try clear hk); (try clear hi)))
                                have n0_ := Aside0.mk (Kd.R_drew HO_453001.out)
                                have n1_ := Aside0.mk (Kd.R_drew HO465.out)
                                have n2_ := Aside0.mk (blk_drew BK452.out)
                                have n3_ := Aside0.mk (blk_drew BK468.out)
                                have n4_ := Aside0.mk (below_drew1 HB.out)
                                clear HO_453001
                                clear HO465
                                clear BK452
                                clear BK468
                                clear HB
                                have HO_453001 := n0_
                                have HO465 := n1_
                                have BK452 := n2_
                                have BK468 := n3_
                                have HB := n4_
                                clear n0_ n1_ n2_ n3_ n4_
                                refine start_ (n := 6) (S := fun w' => w'.cell? ⟨gb468, 0, none⟩ = some (.int .i64 t462) ∧ w'.cell? ⟨gb468, 1, none⟩ = some (.slice Ao33 t463.length co33)) (ds := []) #[false, false, false, false, false, false] (by kernel_rfl) rfl rfl ⟨(blk_cell BK468.out 0).trans rfl, (blk_cell BK468.out 1).trans rfl⟩ (fun hHeld => ?_)
                                generalize w35.drew = w36 at HO_453001 HO465 BK452 BK468 HB hHeld ⊢
                                refine pure_ (i := 0) (N := some 97) (v := ?_) (a' := ?_) #[true, false, false, false, false, false] rfl rfl (by kernel_rfl) (fun _ _ _ h => h) (Or.inl ⟨by rfl, ?_⟩) ?_ ?_
                                rotate_left
                                · intro w'
                                  go_simp
                                  with_reducible rfl
                                rotate_left
                                · simp only [Act.put, List.setIfInBounds_toArray, List.set_cons_zero, List.set_cons_succ, i64_w, i32_w]
                                  rfl
                                refine pure_ (i := 1) (N := some 98) (v := ?_) (a' := ?_) #[true, true, false, false, false, false] rfl rfl (by kernel_rfl) (fun _ _ _ h => h) (Or.inl ⟨by rfl, ?_⟩) ?_ ?_
                                rotate_left
                                · intro w'
                                  go_simp
                                  with_reducible rfl
                                rotate_left
                                · simp only [Act.put, List.setIfInBounds_toArray, List.set_cons_zero, List.set_cons_succ, i64_w, i32_w]
                                  rfl
                                refine pure_ (i := 3) (N := some 8) (v := ?_) (a' := ?_) #[true, true, false, true, false, false] rfl rfl (by kernel_rfl) (fun _ _ _ h => h) (Or.inl ⟨by rfl, ?_⟩) ?_ ?_
                                rotate_left
                                · intro w'
                                  go_simp
                                  with_reducible rfl
                                rotate_left
                                · simp only [Act.put, List.setIfInBounds_toArray, List.set_cons_zero, List.set_cons_succ, i64_w, i32_w]
                                  rfl
                                refine pure_ (i := 4) (N := some 9) (v := ?_) (a' := ?_) #[true, true, false, true, true, false] rfl rfl (by kernel_rfl) (fun _ _ _ h => h) (Or.inl ⟨by rfl, ?_⟩) ?_ ?_
                                rotate_left
                                · intro w'
                                  go_simp
                                  with_reducible rfl
                                rotate_left
                                · simp only [Act.put, List.setIfInBounds_toArray, List.set_cons_zero, List.set_cons_succ, i64_w, i32_w]
                                  rfl
                                refine take_ (i := 2) (N := some 99) (v := ?_) (a' := ?_) #[true, true, true, true, true, false] rfl rfl (by kernel_rfl) (fun _ _ _ h => h) (Or.inl ⟨by rfl, ?_⟩) hHeld ?_ ?_
                                rotate_left
                                · rintro w' ⟨s0, s1⟩
                                  go_simp
                                  with_reducible rfl
                                rotate_left
                                · simp only [Act.put, List.setIfInBounds_toArray, List.set_cons_zero, List.set_cons_succ, i64_w, i32_w]
                                  rfl
                                refine one_ (i := 5) (N := none) #[true, true, true, true, true, true] rfl rfl (by kernel_rfl) (by decide) (fun K hK => ?_)
                                have hs37 : w36.cell? ⟨gb452, 0, none⟩ = some (.int .i64 x453000_2) := (blk_cell BK452.out 0).trans rfl
                                have hfs37 := blk_frozen BK452.out 0
                                have hns37_1 := NB468_452.out
                                have hms37_1 := NB452_468.out
                                have hs38 : w36.cell? ⟨gb452, 1, none⟩ = some (.slice Ao28 x453001_2.length co28) := (blk_cell BK452.out 1).trans rfl
                                have hfs38 := blk_frozen BK452.out 1
                                have hns38_1 := NB468_452.out
                                have hms38_1 := NB452_468.out
                                refine skip_ (w1 := ?_) (by rfl) rfl ?_ ?_
                                rotate_left
                                · go_simp
                                  rfl
                                refine hK.out _ _ ⟨((cell_far (p := ⟨gb452, _, none⟩) NB468_452.out _).trans (((cell_far (p := ⟨gb452, _, none⟩) NB468_452.out _).trans (hHeld.1)))), ((cell_far (p := ⟨gb452, _, none⟩) NB468_452.out _).trans (((cell_far (p := ⟨gb452, _, none⟩) NB468_452.out _).trans (hHeld.2))))⟩ (fun hHeld => ?_)
                                clear hK K
                                refine done_ (by kernel_rfl) ?_
                                try go_wp2
                                go_roundg k2
                                case measure => have := HJ5.out; have := HK2.out; omega
                                case rel => exact ⟨(t469), (t470), (wrap64 (x10_2 + 1)), (t462), (t463), (.slice Ao33 t463.length co33), (by first | rfl | (simp; done) | (simp [*]; done)), (by first | rfl | (simp; done) | (simp [*]; done)), (by first | rfl | (simp; done) | (simp [*]; done)), H', ⟨by have := HJ5.out; have := HK2.out; omega⟩, ⟨by (with_reducible repeat (first | apply Kd.R_alloc | apply Kd.R_drewN | apply Kd.R_drew)); exact Kd.R_mono (Kd.R_far (p := ⟨gb452, 1, none⟩) (Kd.R_far (p := ⟨gb452, 0, none⟩) (Kd.R_types HO465.out BK452.out (by decide)) (fun _ hk => hk.2) (.int .i64 t462)) (fun _ hk => hk.2) (.slice Ao33 t463.length co33)) (fun _ hk => trivial)⟩, ⟨by (with_reducible repeat (first | refine blk_drewN ?_ _ | refine blk_drew ?_ | refine blk_alloc ?_ _)); refine blk_put (cs := #[.int .i64 t462, .slice Ao28 x453001_2.length co28]) ?_ 1 _ rfl; (with_reducible repeat (first | refine blk_drewN ?_ _ | refine blk_drew ?_ | refine blk_alloc ?_ _)); refine blk_put (cs := #[.int .i64 x453000_2, .slice Ao28 x453001_2.length co28]) ?_ 0 _ rfl; (with_reducible repeat (first | refine blk_drewN ?_ _ | refine blk_drew ?_ | refine blk_alloc ?_ _)); exact BK452.out⟩, ⟨by repeat (first | (with_reducible first | exact HB.out | apply below_alloc | apply pw_below_drewN | apply below_drew1 | refine below_set ?_ GE452.out | refine below_set ?_ GE468.out) | exact HB.out)⟩⟩
                      · rw [if_neg c22] at H
                        have c22b0 : (t469 == x8_2) = false := beq_eq_false_iff_ne.mpr c22
                        have c22b1 : (t469 != x8_2) = true := bne_iff_ne.mpr c22
                        by_cases c39 : t469 ≥ t453
                        · rw [if_pos c39] at H
                          have c39b0 : decide (t453 ≤ t469) = true := decide_eq_true c39
                          clear c39
                          exact absurd ((Option.some.inj H).trans hT.out) (by decide)
                        · rw [if_neg c39] at H
                          have c39b0 : decide (t453 ≤ t469) = false := decide_eq_false c39
                          clear c39
                          by_cases c40 : t470 < 0
                          · rw [if_pos c40] at H
                            have c40b0 : decide (t470 < 0) = true := decide_eq_true c40
                            clear c40
                            exact absurd ((Option.some.inj H).trans hT.out) (by decide)
                          · rw [if_neg c40] at H
                            have c40b0 : decide (t470 < 0) = false := decide_eq_false c40
                            clear c40
                            by_cases c41 : t470 > 7
                            · rw [if_pos c41] at H
                              have c41b0 : decide (7 < t470) = true := decide_eq_true c41
                              clear c41
                              exact absurd ((Option.some.inj H).trans hT.out) (by decide)
                            · rw [if_neg c41] at H
                              have c41b0 : decide (7 < t470) = false := decide_eq_false c41
                              clear c41
                              have H' := Aside0.mk H
                              clear H
                              have hcz42_0 : wr.cell? ⟨gb452, 0, none⟩ = some (.int .i64 x453000_2) := (blk_cell BK452.out 0).trans rfl
                              have hcz42_1 : wr.cell? ⟨gb452, 1, none⟩ = some (u453001) := (blk_cell BK452.out 1).trans rfl
                              have hfz42_0 := blk_frozen BK452.out 0
                              have hfz42_1 := blk_frozen BK452.out 1
                              obtain ⟨Ao43, co43, eo43⟩ := Kd.R_slice HO_453001.out
                              subst eo43
                              try go_wp2_with (first | ((with_reducible refine gate_callee (f := 18) rfl ?_); refine goesL_ (some 47) rfl rfl Tryd.func18 (by kernel_rfl) rfl #[.agg #[.int .i64 x453000_2, .slice Ao43 x453001_2.length co43]] rfl (by (try simp only [List.map_toArray, List.map_cons, List.map_nil]); first | done | rfl | (simp only [List.length_drop, List.length_take]; rfl)) ?_; (with_reducible refine (pool_Take.calls k2 x453000_2 _ _ x453001_2 t462 t463 t466 t467 _ ?side1 ?side2 A16.out).mono ?_); (case side1 => repeat (first | exact (Kd.R_reads' HO_453001.out).2.2 | (with_reducible refine Kd.C_alloc ?_ _) | (with_reducible refine Kd.C_drewN ?_ _) | (with_reducible refine Kd.C_drew ?_))); (case side2 => exact (Kd.R_reads' HO_453001.out).2.1); rintro e w44 ⟨v464, rfl, ho0, hb⟩; refine ⟨_, rfl, ?_⟩; have n0_ := Aside0.mk (Kd.R_elder' (by (with_reducible repeat (first | apply Kd.R_alloc | apply Kd.R_drewN | apply Kd.R_drew)); exact HO_453001.out) (Kd.R_base ho0) hb); have n1_ := Aside0.mk (Kd.R_lower (Kd.R_new' ho0 (Kd.R_lt (by (with_reducible repeat (first | apply Kd.R_alloc | apply Kd.R_drewN | apply Kd.R_drew)); exact HO_453001.out))) (below_size (by repeat (first | (with_reducible first | exact HB.out | apply below_alloc | apply pw_below_drewN | apply below_drew1 | refine below_set ?_ GE452.out) | exact HB.out)))); have n2_ := Aside0.mk (blk_below (g := gb452) (o := .cells #[.int .i64 x453000_2, .slice Ao43 x453001_2.length co43] 24 (0, 0)) (by (with_reducible repeat (first | refine blk_drewN ?_ _ | refine blk_drew ?_ | refine blk_alloc ?_ _)); exact BK452.out) hb); have n3_ := Aside0.mk (below_step (by repeat (first | (with_reducible first | exact HB.out | apply below_alloc | apply pw_below_drewN | apply below_drew1 | refine below_set ?_ GE452.out) | exact HB.out)) hb); clear HO_453001; clear BK452; clear HB; have HO_453001 := n0_; have HO465 := n1_; have BK452 := n2_; have HB := n3_; clear n0_ n1_ n2_ n3_; (try clear hb); (try clear hb2); (try clear hk); (try clear hi); (try clear ho0)) | ((with_reducible refine gate_dst (N := 11) rfl ?_); refine box_event ?hg (N := 11) ?hd (cs := #[.int .i64 0, .slice none 0 0]) (t := 24) ?hr ?_; (case hd => rfl); (case hg => rfl); (case hr => first | (go_simp; done) | (go_simp; rfl)); intro gb468 hg w45 hbox hb; have n0_ := Aside0.mk (Kd.R_below (by (with_reducible repeat (first | apply Kd.R_alloc | apply Kd.R_drewN | apply Kd.R_drew)); exact HO_453001.out) hb); have n1_ := Aside0.mk (Kd.R_below (by (with_reducible repeat (first | apply Kd.R_alloc | apply Kd.R_drewN | apply Kd.R_drew)); exact HO465.out) hb); have n2_ := Aside0.mk (blk_below (g := gb452) (o := .cells #[.int .i64 x453000_2, .slice Ao43 x453001_2.length co43] 24 (0, 0)) (by (with_reducible repeat (first | refine blk_drewN ?_ _ | refine blk_drew ?_ | refine blk_alloc ?_ _)); exact BK452.out) hb); have n3_ := Aside0.mk (below_step (by repeat (first | (with_reducible first | exact HB.out | apply below_alloc | apply pw_below_drewN | apply below_drew1 | refine below_set ?_ GE452.out) | exact HB.out)) hb); have n4_ := Aside0.mk (hbox); have n5_ := Aside0.mk ((by rw [hg]; exact (below_size (by repeat (first | (with_reducible first | exact HB.out | apply below_alloc | apply pw_below_drewN | apply below_drew1 | refine below_set ?_ GE452.out) | exact HB.out))) : w.heap.size ≤ gb468)); have n6_ := Aside0.mk ((by rw [hg]; exact (below_size (by repeat (first | (with_reducible first | exact HB.out | apply below_alloc | apply pw_below_drewN | apply below_drew1 | refine below_set ?_ GE452.out) | exact HB.out))) : w.heap.size ≤ gb468)); have n7_ := Aside0.mk ((by rw [hg]; exact Nat.ne_of_lt (blk_lt (g := gb452) (o := .cells #[.int .i64 x453000_2, .slice Ao43 x453001_2.length co43] 24 (0, 0)) (by (with_reducible repeat (first | refine blk_drewN ?_ _ | refine blk_drew ?_ | refine blk_alloc ?_ _)); exact BK452.out)) : gb452 ≠ gb468)); have n8_ := Aside0.mk ((by rw [hg]; exact Nat.ne_of_gt (blk_lt (g := gb452) (o := .cells #[.int .i64 x453000_2, .slice Ao43 x453001_2.length co43] 24 (0, 0)) (by (with_reducible repeat (first | refine blk_drewN ?_ _ | refine blk_drew ?_ | refine blk_alloc ?_ _)); exact BK452.out)) : gb468 ≠ gb452)); clear HO_453001; clear HO465; clear BK452; clear HB; have HO_453001 := n0_; have HO465 := n1_; have BK452 := n2_; have HB := n3_; have BK468 := n4_; have GW468 := n5_; have GE468 := n6_; have NB452_468 := n7_; have NB468_452 := n8_; clear n0_ n1_ n2_ n3_ n4_ n5_ n6_ n7_ n8_; clear hb hbox hg; have hnb46 := NB468_452.out; have hnc46 := NB452_468.out; have hcz47_0 : w45.cell? ⟨gb468, 0, none⟩ = some (.int .i64 0) := (blk_cell BK468.out 0).trans rfl; have hcz47_1 : w45.cell? ⟨gb468, 1, none⟩ = some (.slice none 0 0) := (blk_cell BK468.out 1).trans rfl; have hfz47_0 := blk_frozen BK468.out 0; have hfz47_1 := blk_frozen BK468.out 1; obtain ⟨Ao48, co48, eo48⟩ := Kd.R_slice HO465.out; subst eo48; have hcz49_0 : w45.cell? ⟨gb452, 0, none⟩ = some (.int .i64 x453000_2) := (blk_cell BK452.out 0).trans rfl; have hcz49_1 : w45.cell? ⟨gb452, 1, none⟩ = some (.slice Ao43 x453001_2.length co43) := (blk_cell BK452.out 1).trans rfl; have hfz49_0 := blk_frozen BK452.out 0; have hfz49_1 := blk_frozen BK452.out 1) | ((with_reducible refine gate_callee (f := 26) rfl ?_); refine goesL_ (some 54) rfl rfl Tryd.func26 (by kernel_rfl) rfl #[.agg #[.int .i64 x453000_2, .slice Ao43 x453001_2.length co43], .int .i64 t466] rfl (by (try simp only [List.map_toArray, List.map_cons, List.map_nil]); first | done | rfl | (simp only [List.length_drop, List.length_take]; rfl)) ?_; (with_reducible refine (pool_Home.calls k2 x453000_2 _ _ x453001_2 t466 t469 t470 t471 _ ?side1 ?side2 A17.out).mono ?_); (case side1 => refine (Kd.R_reads' (e := 3) (base := w.heap.size) (ok := fun k_ => (True ∧ some k_ ≠ (.slice Ao48 t463.length co48 : Value).ownBlock)) (n := x453001_2.length) (c := co43) ?_).2.2; exact (by (with_reducible repeat (first | apply Kd.R_alloc | apply Kd.R_drewN | apply Kd.R_drew)); exact (Kd.R_mono (Kd.R_far (p := ⟨gb468, 1, none⟩) (Kd.R_far (p := ⟨gb468, 0, none⟩) (Kd.R_types HO_453001.out BK468.out (by decide)) (fun _ hk => hk.2) (.int .i64 t462)) (fun _ hk => hk.2) (.slice Ao48 t463.length co48)) (fun _ h_ => h_.1)))); (case side2 => exact (Kd.R_reads' HO_453001.out).2.1); rintro e w50 ⟨rfl, hb⟩; refine ⟨_, rfl, ?_⟩; have n0_ := Aside0.mk (Kd.R_below (by (with_reducible repeat (first | apply Kd.R_alloc | apply Kd.R_drewN | apply Kd.R_drew)); exact (Kd.R_mono (Kd.R_far (p := ⟨gb468, 1, none⟩) (Kd.R_far (p := ⟨gb468, 0, none⟩) (Kd.R_types HO_453001.out BK468.out (by decide)) (fun _ hk => hk.2) (.int .i64 t462)) (fun _ hk => hk.2) (.slice Ao48 t463.length co48)) (fun _ h_ => h_.1))) hb); have n1_ := Aside0.mk (Kd.R_below (by (with_reducible repeat (first | apply Kd.R_alloc | apply Kd.R_drewN | apply Kd.R_drew)); exact (Kd.R_mono (Kd.R_far (p := ⟨gb468, 1, none⟩) (Kd.R_far (p := ⟨gb468, 0, none⟩) (Kd.R_types HO465.out BK468.out (by decide)) (fun _ hk => hk.2) (.int .i64 t462)) (fun _ hk => hk.2) (.slice Ao48 t463.length co48)) (fun _ h_ => h_.1))) hb); have n2_ := Aside0.mk (blk_below (g := gb452) (o := .cells #[.int .i64 x453000_2, .slice Ao43 x453001_2.length co43] 24 (0, 0)) (by (with_reducible repeat (first | refine blk_drewN ?_ _ | refine blk_drew ?_ | refine blk_alloc ?_ _)); refine blk_far ?_ NB452_468.out _; (with_reducible repeat (first | refine blk_drewN ?_ _ | refine blk_drew ?_ | refine blk_alloc ?_ _)); refine blk_far ?_ NB452_468.out _; (with_reducible repeat (first | refine blk_drewN ?_ _ | refine blk_drew ?_ | refine blk_alloc ?_ _)); exact BK452.out) hb); have n3_ := Aside0.mk (blk_below (g := gb468) (o := .cells #[.int .i64 t462, .slice Ao48 t463.length co48] 24 (0, 0)) (by (with_reducible repeat (first | refine blk_drewN ?_ _ | refine blk_drew ?_ | refine blk_alloc ?_ _)); refine blk_put (cs := #[.int .i64 t462, .slice none 0 0]) ?_ 1 _ rfl; (with_reducible repeat (first | refine blk_drewN ?_ _ | refine blk_drew ?_ | refine blk_alloc ?_ _)); refine blk_put (cs := #[.int .i64 0, .slice none 0 0]) ?_ 0 _ rfl; (with_reducible repeat (first | refine blk_drewN ?_ _ | refine blk_drew ?_ | refine blk_alloc ?_ _)); exact BK468.out) hb); have n4_ := Aside0.mk (below_step (by repeat (first | (with_reducible first | exact HB.out | apply below_alloc | apply pw_below_drewN | apply below_drew1 | refine below_set ?_ GE452.out | refine below_set ?_ GE468.out) | exact HB.out)) hb); clear HO_453001; clear HO465; clear BK452; clear BK468; clear HB; have HO_453001 := n0_; have HO465 := n1_; have BK452 := n2_; have BK468 := n3_; have HB := n4_; clear n0_ n1_ n2_ n3_ n4_; (try clear hb); (try clear hb2); (try clear hk); (try clear hi)))
                              have n0_ := Aside0.mk (Kd.R_drew HO_453001.out)
                              have n1_ := Aside0.mk (Kd.R_drew HO465.out)
                              have n2_ := Aside0.mk (blk_drew BK452.out)
                              have n3_ := Aside0.mk (blk_drew BK468.out)
                              have n4_ := Aside0.mk (below_drew1 HB.out)
                              clear HO_453001
                              clear HO465
                              clear BK452
                              clear BK468
                              clear HB
                              have HO_453001 := n0_
                              have HO465 := n1_
                              have BK452 := n2_
                              have BK468 := n3_
                              have HB := n4_
                              clear n0_ n1_ n2_ n3_ n4_
                              refine start_ (n := 6) (S := fun w' => w'.cell? ⟨gb468, 0, none⟩ = some (.int .i64 t462) ∧ w'.cell? ⟨gb468, 1, none⟩ = some (.slice Ao48 t463.length co48)) (ds := []) #[false, false, false, false, false, false] (by kernel_rfl) rfl rfl ⟨(blk_cell BK468.out 0).trans rfl, (blk_cell BK468.out 1).trans rfl⟩ (fun hHeld => ?_)
                              generalize w50.drew = w51 at HO_453001 HO465 BK452 BK468 HB hHeld ⊢
                              refine pure_ (i := 0) (N := some 97) (v := ?_) (a' := ?_) #[true, false, false, false, false, false] rfl rfl (by kernel_rfl) (fun _ _ _ h => h) (Or.inl ⟨by rfl, ?_⟩) ?_ ?_
                              rotate_left
                              · intro w'
                                go_simp
                                with_reducible rfl
                              rotate_left
                              · simp only [Act.put, List.setIfInBounds_toArray, List.set_cons_zero, List.set_cons_succ, i64_w, i32_w]
                                rfl
                              refine pure_ (i := 1) (N := some 98) (v := ?_) (a' := ?_) #[true, true, false, false, false, false] rfl rfl (by kernel_rfl) (fun _ _ _ h => h) (Or.inl ⟨by rfl, ?_⟩) ?_ ?_
                              rotate_left
                              · intro w'
                                go_simp
                                with_reducible rfl
                              rotate_left
                              · simp only [Act.put, List.setIfInBounds_toArray, List.set_cons_zero, List.set_cons_succ, i64_w, i32_w]
                                rfl
                              refine pure_ (i := 3) (N := some 8) (v := ?_) (a' := ?_) #[true, true, false, true, false, false] rfl rfl (by kernel_rfl) (fun _ _ _ h => h) (Or.inl ⟨by rfl, ?_⟩) ?_ ?_
                              rotate_left
                              · intro w'
                                go_simp
                                with_reducible rfl
                              rotate_left
                              · simp only [Act.put, List.setIfInBounds_toArray, List.set_cons_zero, List.set_cons_succ, i64_w, i32_w]
                                rfl
                              refine pure_ (i := 4) (N := some 9) (v := ?_) (a' := ?_) #[true, true, false, true, true, false] rfl rfl (by kernel_rfl) (fun _ _ _ h => h) (Or.inl ⟨by rfl, ?_⟩) ?_ ?_
                              rotate_left
                              · intro w'
                                go_simp
                                with_reducible rfl
                              rotate_left
                              · simp only [Act.put, List.setIfInBounds_toArray, List.set_cons_zero, List.set_cons_succ, i64_w, i32_w]
                                rfl
                              refine take_ (i := 2) (N := some 99) (v := ?_) (a' := ?_) #[true, true, true, true, true, false] rfl rfl (by kernel_rfl) (fun _ _ _ h => h) (Or.inl ⟨by rfl, ?_⟩) hHeld ?_ ?_
                              rotate_left
                              · rintro w' ⟨s0, s1⟩
                                go_simp
                                with_reducible rfl
                              rotate_left
                              · simp only [Act.put, List.setIfInBounds_toArray, List.set_cons_zero, List.set_cons_succ, i64_w, i32_w]
                                rfl
                              refine one_ (i := 5) (N := none) #[true, true, true, true, true, true] rfl rfl (by kernel_rfl) (by decide) (fun K hK => ?_)
                              have hs52 : w51.cell? ⟨gb452, 0, none⟩ = some (.int .i64 x453000_2) := (blk_cell BK452.out 0).trans rfl
                              have hfs52 := blk_frozen BK452.out 0
                              have hns52_1 := NB468_452.out
                              have hms52_1 := NB452_468.out
                              have hs53 : w51.cell? ⟨gb452, 1, none⟩ = some (.slice Ao43 x453001_2.length co43) := (blk_cell BK452.out 1).trans rfl
                              have hfs53 := blk_frozen BK452.out 1
                              have hns53_1 := NB468_452.out
                              have hms53_1 := NB452_468.out
                              refine skip_ (w1 := ?_) (by rfl) rfl ?_ ?_
                              rotate_left
                              · go_simp
                                rfl
                              refine hK.out _ _ ⟨((cell_far (p := ⟨gb452, _, none⟩) NB468_452.out _).trans (((cell_far (p := ⟨gb452, _, none⟩) NB468_452.out _).trans (hHeld.1)))), ((cell_far (p := ⟨gb452, _, none⟩) NB468_452.out _).trans (((cell_far (p := ⟨gb452, _, none⟩) NB468_452.out _).trans (hHeld.2))))⟩ (fun hHeld => ?_)
                              clear hK K
                              refine done_ (by kernel_rfl) ?_
                              try go_wp2
                              go_roundg k2
                              case measure => have := HJ5.out; have := HK2.out; omega
                              case rel => exact ⟨(t469), (t470), (wrap64 (x10_2 + 1)), (t462), (t463), (.slice Ao48 t463.length co48), (by first | rfl | (simp; done) | (simp [*]; done)), (by first | rfl | (simp; done) | (simp [*]; done)), (by first | rfl | (simp; done) | (simp [*]; done)), H', ⟨by have := HJ5.out; have := HK2.out; omega⟩, ⟨by (with_reducible repeat (first | apply Kd.R_alloc | apply Kd.R_drewN | apply Kd.R_drew)); exact Kd.R_mono (Kd.R_far (p := ⟨gb452, 1, none⟩) (Kd.R_far (p := ⟨gb452, 0, none⟩) (Kd.R_types HO465.out BK452.out (by decide)) (fun _ hk => hk.2) (.int .i64 t462)) (fun _ hk => hk.2) (.slice Ao48 t463.length co48)) (fun _ hk => trivial)⟩, ⟨by (with_reducible repeat (first | refine blk_drewN ?_ _ | refine blk_drew ?_ | refine blk_alloc ?_ _)); refine blk_put (cs := #[.int .i64 t462, .slice Ao43 x453001_2.length co43]) ?_ 1 _ rfl; (with_reducible repeat (first | refine blk_drewN ?_ _ | refine blk_drew ?_ | refine blk_alloc ?_ _)); refine blk_put (cs := #[.int .i64 x453000_2, .slice Ao43 x453001_2.length co43]) ?_ 0 _ rfl; (with_reducible repeat (first | refine blk_drewN ?_ _ | refine blk_drew ?_ | refine blk_alloc ?_ _)); exact BK452.out⟩, ⟨by repeat (first | (with_reducible first | exact HB.out | apply below_alloc | apply pw_below_drewN | apply below_drew1 | refine below_set ?_ GE452.out | refine below_set ?_ GE468.out) | exact HB.out)⟩⟩
                  · rw [if_neg c20] at H
                    have c20b0 : (t466 == x10_2) = false := beq_eq_false_iff_ne.mpr c20
                    have c20b1 : (t466 != x10_2) = true := bne_iff_ne.mpr c20
                    exact absurd ((Option.some.inj H).trans hT.out) (by decide)
                · rw [if_neg c19] at H
                  have c19b0 : (t471 == 0) = false := beq_eq_false_iff_ne.mpr c19
                  have c19b1 : (t471 != 0) = true := bne_iff_ne.mpr c19
                  exact absurd ((Option.some.inj H).trans hT.out) (by decide)
              · rw [if_neg c18] at H
                have c18b0 : (t467 == 0) = false := beq_eq_false_iff_ne.mpr c18
                have c18b1 : (t467 != 0) = true := bne_iff_ne.mpr c18
                exact absurd ((Option.some.inj H).trans hT.out) (by decide)
            · rw [if_neg c15] at H
              have c15b0 : decide (x10_2 < (wrap64 (1 + t446))) = false := decide_eq_false c15
              clear c15
              replace H := Option.bind_eq_some_iff.mp H
              obtain ⟨⟨t455, t456, t459, t460⟩, A540, H⟩ := H
              replace H : (if t445 = true then (if t460 = 5 then (some (x8_2 == (wrap64 (t453 - 1)))) else (some false)) else (some false)) = some r := H
              have A54 := Aside0.mk A540
              clear A540
              by_cases c55 : t445 = true
              · subst c55
                have H1 : (if t460 = 5 then (some (x8_2 == (wrap64 (t453 - 1)))) else (some false)) = some r := by rw [if_pos rfl] at H; exact H
                clear H
                have H := H1
                clear H1
                by_cases c56 : t460 = 5
                · rw [if_pos c56] at H
                  have c56b0 : (t460 == 5) = true := beq_iff_eq.mpr c56
                  have c56b1 : (t460 != 5) = false := bne_eq_false_iff_eq.mpr c56
                  clear c56
                  obtain rfl := Option.some.inj H
                  have hcz57_0 : wr.cell? ⟨gb452, 0, none⟩ = some (.int .i64 x453000_2) := (blk_cell BK452.out 0).trans rfl
                  have hcz57_1 : wr.cell? ⟨gb452, 1, none⟩ = some (u453001) := (blk_cell BK452.out 1).trans rfl
                  have hfz57_0 := blk_frozen BK452.out 0
                  have hfz57_1 := blk_frozen BK452.out 1
                  obtain ⟨Ao58, co58, eo58⟩ := Kd.R_slice HO_453001.out
                  subst eo58
                  go_wp2_with (first | ((with_reducible refine gate_callee (f := 18) rfl ?_); refine goesL_ (some 102) rfl rfl Tryd.func18 (by kernel_rfl) rfl #[.agg #[.int .i64 x453000_2, .slice Ao58 x453001_2.length co58]] rfl (by (try simp only [List.map_toArray, List.map_cons, List.map_nil]); first | done | rfl | (simp only [List.length_drop, List.length_take]; rfl)) ?_; (with_reducible refine (pool_Take.calls k2 x453000_2 _ _ x453001_2 t455 t456 t459 t460 _ ?side1 ?side2 A54.out).mono ?_); (case side1 => repeat (first | exact (Kd.R_reads' HO_453001.out).2.2 | (with_reducible refine Kd.C_alloc ?_ _) | (with_reducible refine Kd.C_drewN ?_ _) | (with_reducible refine Kd.C_drew ?_))); (case side2 => exact (Kd.R_reads' HO_453001.out).2.1); rintro e w59 ⟨v457, rfl, ho0, hb⟩; refine ⟨_, rfl, ?_⟩; have n0_ := Aside0.mk (Kd.R_elder' (by (with_reducible repeat (first | apply Kd.R_alloc | apply Kd.R_drewN | apply Kd.R_drew)); exact HO_453001.out) (Kd.R_base ho0) hb); have n1_ := Aside0.mk (Kd.R_lower (Kd.R_new' ho0 (Kd.R_lt (by (with_reducible repeat (first | apply Kd.R_alloc | apply Kd.R_drewN | apply Kd.R_drew)); exact HO_453001.out))) (below_size (by repeat (first | (with_reducible first | exact HB.out | apply below_alloc | apply pw_below_drewN | apply below_drew1 | refine below_set ?_ GE452.out) | exact HB.out)))); have n2_ := Aside0.mk (blk_below (g := gb452) (o := .cells #[.int .i64 x453000_2, .slice Ao58 x453001_2.length co58] 24 (0, 0)) (by (with_reducible repeat (first | refine blk_drewN ?_ _ | refine blk_drew ?_ | refine blk_alloc ?_ _)); exact BK452.out) hb); have n3_ := Aside0.mk (below_step (by repeat (first | (with_reducible first | exact HB.out | apply below_alloc | apply pw_below_drewN | apply below_drew1 | refine below_set ?_ GE452.out) | exact HB.out)) hb); clear HO_453001; clear BK452; clear HB; have HO_453001 := n0_; have HO458 := n1_; have BK452 := n2_; have HB := n3_; clear n0_ n1_ n2_ n3_; (try clear hb); (try clear hb2); (try clear hk); (try clear hi); (try clear ho0)) | ((with_reducible refine gate_dst (N := 17) rfl ?_); refine box_event ?hg (N := 17) ?hd (cs := #[.int .i64 0, .slice none 0 0]) (t := 24) ?hr ?_; (case hd => rfl); (case hg => rfl); (case hr => first | (go_simp; done) | (go_simp; rfl)); intro gb461 hg w60 hbox hb; have n0_ := Aside0.mk (Kd.R_below (by (with_reducible repeat (first | apply Kd.R_alloc | apply Kd.R_drewN | apply Kd.R_drew)); exact HO_453001.out) hb); have n1_ := Aside0.mk (Kd.R_below (by (with_reducible repeat (first | apply Kd.R_alloc | apply Kd.R_drewN | apply Kd.R_drew)); exact HO458.out) hb); have n2_ := Aside0.mk (blk_below (g := gb452) (o := .cells #[.int .i64 x453000_2, .slice Ao58 x453001_2.length co58] 24 (0, 0)) (by (with_reducible repeat (first | refine blk_drewN ?_ _ | refine blk_drew ?_ | refine blk_alloc ?_ _)); exact BK452.out) hb); have n3_ := Aside0.mk (below_step (by repeat (first | (with_reducible first | exact HB.out | apply below_alloc | apply pw_below_drewN | apply below_drew1 | refine below_set ?_ GE452.out) | exact HB.out)) hb); have n4_ := Aside0.mk (hbox); have n5_ := Aside0.mk ((by rw [hg]; exact (below_size (by repeat (first | (with_reducible first | exact HB.out | apply below_alloc | apply pw_below_drewN | apply below_drew1 | refine below_set ?_ GE452.out) | exact HB.out))) : w.heap.size ≤ gb461)); have n6_ := Aside0.mk ((by rw [hg]; exact (below_size (by repeat (first | (with_reducible first | exact HB.out | apply below_alloc | apply pw_below_drewN | apply below_drew1 | refine below_set ?_ GE452.out) | exact HB.out))) : w.heap.size ≤ gb461)); have n7_ := Aside0.mk ((by rw [hg]; exact Nat.ne_of_lt (blk_lt (g := gb452) (o := .cells #[.int .i64 x453000_2, .slice Ao58 x453001_2.length co58] 24 (0, 0)) (by (with_reducible repeat (first | refine blk_drewN ?_ _ | refine blk_drew ?_ | refine blk_alloc ?_ _)); exact BK452.out)) : gb452 ≠ gb461)); have n8_ := Aside0.mk ((by rw [hg]; exact Nat.ne_of_gt (blk_lt (g := gb452) (o := .cells #[.int .i64 x453000_2, .slice Ao58 x453001_2.length co58] 24 (0, 0)) (by (with_reducible repeat (first | refine blk_drewN ?_ _ | refine blk_drew ?_ | refine blk_alloc ?_ _)); exact BK452.out)) : gb461 ≠ gb452)); clear HO_453001; clear HO458; clear BK452; clear HB; have HO_453001 := n0_; have HO458 := n1_; have BK452 := n2_; have HB := n3_; have BK461 := n4_; have GW461 := n5_; have GE461 := n6_; have NB452_461 := n7_; have NB461_452 := n8_; clear n0_ n1_ n2_ n3_ n4_ n5_ n6_ n7_ n8_; clear hb hbox hg; have hnb61 := NB461_452.out; have hnc61 := NB452_461.out; have hcz62_0 : w60.cell? ⟨gb461, 0, none⟩ = some (.int .i64 0) := (blk_cell BK461.out 0).trans rfl; have hcz62_1 : w60.cell? ⟨gb461, 1, none⟩ = some (.slice none 0 0) := (blk_cell BK461.out 1).trans rfl; have hfz62_0 := blk_frozen BK461.out 0; have hfz62_1 := blk_frozen BK461.out 1; obtain ⟨Ao63, co63, eo63⟩ := Kd.R_slice HO458.out; subst eo63))
                  go_ret
                  exact ⟨by first | rfl | (simp [errW_none, errW_some] <;> rfl) | (simp [*, errW_none, errW_some] <;> rfl), by repeat (first | (with_reducible first | exact HB.out | apply below_alloc | apply pw_below_drewN | apply below_drew1 | refine below_set ?_ GE452.out | refine below_set ?_ GE461.out) | exact HB.out)⟩
                · rw [if_neg c56] at H
                  have c56b0 : (t460 == 5) = false := beq_eq_false_iff_ne.mpr c56
                  have c56b1 : (t460 != 5) = true := bne_iff_ne.mpr c56
                  exact absurd ((Option.some.inj H).trans hT.out) (by decide)
              · replace c55 := Bool.eq_false_iff.mpr c55
                subst c55
                have H1 : (some false) = some r := by rw [if_neg (show ¬ (false = true) by decide)] at H; exact H
                clear H
                have H := H1
                clear H1
                exact absurd ((Option.some.inj H).trans hT.out) (by decide)

/-- THE ONE PURE STATEMENT of headgatelaw14_PoolAll: yours. -/
def headgatelaw14_PoolAll.Pure : Prop := ∀ (a0 : Int), (Lit.int .i64 a0).wf = true → ∃ k, headgatelaw14_PoolAll.f k a0 = some true
theorem headgatelaw14_PoolAll.walk (P : headgatelaw14_PoolAll.Pure) (a0 : Int) (w : World) (w0 : (Lit.int .i64 a0).wf = true) (gc0 : GC w) :
    Calls Tryd.prog 8 #[.int .i64 a0] w fun e w' => e = .returned (.bool true) ∧ Below w.heap.size w w' := by
  obtain ⟨k, h⟩ := P a0 w0
  refine (headgatelaw14_PoolAll.calls k a0 true w h ⟨rfl⟩ gc0).mono ?_
  rintro e w' ⟨rfl, hd⟩
  exact ⟨rfl, hd⟩

end Go.Proofs.YtompoghbdpfdjaaDoor.PA
