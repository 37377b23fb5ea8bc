-- written by a program of this seat's prover out of the translation; Lean checks it
import Derived.Test.YtompoghbdpfdjaaDoorPAx0
import Derived.Test.YtompoghbdpfdjaaDoorPAx1
import Derived.Test.YtompoghbdpfdjaaDoorPAx4
import Derived.Test.YtompoghbdpfdjaaDoorPAx5
import Derived.Test.YtompoghbdpfdjaaDoorPAx6
import Derived.Test.YtompoghbdpfdjaaDoorPAx7
namespace Go.Proofs.YtompoghbdpfdjaaDoor.PA
open Go.RowKit Go.Proofs.YtompoghbdpfdjaaDoorW.PrintWords Go.Proofs.YtompoghbdpfdjaaDoorW.PrintLast Go.Proofs.YtompoghbdpfdjaaDoorW.PrintMore
attribute [local go_sem] max2_int min2_int max_two min_two max_three min_three max_four min_four   -- for this text's walks alone
set_option linter.unusedVariables false
set_option linter.unusedSimpArgs false

/-! ### headgatelaw14_PoolLooks: function 5 -/
def headgatelaw14_PoolLooks.j0 : Nat → Int → Bool → Int → List Int → Int → List Int → Option (Bool)
  | 0, _, _, _, _, _, _ => none
  | k + 1, x1, x42, x353000, x353001, x359000, x359001 => if x42 = true then (some false) else ((pool_Taken.f k x359000 x359001).bind fun bt363 => ((headgateref14_Taken.f k x353000 x353001).bind fun bt367 => ((pool_Home.f k x359000 x359001 x1).bind fun bt371 => ((headgateref14_Home.f k x353000 x353001 x1).bind fun bt374 => ((headgatekit_SameInts.f k bt363.1 bt367.1).bind fun t377 => (if t377 = true then (if bt363.2 = bt367.2 then (if bt371.1 = bt374.1 then (if bt371.2.1 = bt374.2.1 then (if bt371.2.2 = bt374.2.2 then ((headgatekit_SamePool.f k x359000 x359001 x353000 x353001).bind fun t378 => (if t378 = true then ((headgatelaw14_awake.f k).bind fun t379 => (some t379)) else (some false))) else (some false)) else (some false)) else (some false)) else (some false)) else (some false)))))))
def headgatelaw14_PoolLooks.f (k : Nat) (a0_0 : Int) (l0_1 : List Int) (a1 : Int) : Option (Bool) := if (l0_1.length : Int) > 60 then ((headgatelaw14_awake.f k).bind fun t353 => (some t353)) else ((headgatekit_OwnPool.f a0_0 l0_1).bind fun bt354 => ((pool_Left.f k bt354.1 bt354.2).bind fun bt359 => ((headgateref14_Left.f k a0_0 l0_1).bind fun bt361 => (if bt359.1 = bt361.1 then (headgatelaw14_PoolLooks.j0 k a1 (bt359.2 != bt361.2) a0_0 l0_1 bt354.1 bt354.2) else (headgatelaw14_PoolLooks.j0 k a1 true a0_0 l0_1 bt354.1 bt354.2)))))
theorem headgatelaw14_PoolLooks.mono_l : ∀ k, (∀ y0 y1 y2 y3 y4 y5, LeO (headgatelaw14_PoolLooks.j0 k y0 y1 y2 y3 y4 y5) (headgatelaw14_PoolLooks.j0 (k + 1) y0 y1 y2 y3 y4 y5))
  | 0 => fun _ _ _ _ _ _ r h => by simp [headgatelaw14_PoolLooks.j0] at h
  | k + 1 => by
    have ih0 := headgatelaw14_PoolLooks.mono_l k
    · intro y0 y1 y2 y3 y4 y5
      unfold headgatelaw14_PoolLooks.j0
      repeat' first
      | (with_reducible exact ih0 _ _ _ _ _ _)
      | (with_reducible exact headgatekit_SameInts.mono _ _ _)
      | (with_reducible exact headgatekit_SamePool.mono _ _ _ _ _)
      | (with_reducible exact headgatelaw14_awake.mono _)
      | (with_reducible exact headgateref14_Home.mono _ _ _ _)
      | (with_reducible exact headgateref14_Left.mono _ _ _)
      | (with_reducible exact headgateref14_Taken.mono _ _ _)
      | (with_reducible exact pool_Home.mono _ _ _ _)
      | (with_reducible exact pool_Left.mono _ _ _)
      | (with_reducible exact pool_Taken.mono _ _ _)
      | (with_reducible exact LeO.refl _)
      | (with_reducible exact LeO.none _)
      | (with_reducible refine LeO.ite ?_ ?_)
      | (with_reducible refine LeO.bind ?_ (fun _ => ?_))
      | exact ih0 _ _ _ _ _ _
      | exact headgatekit_SameInts.mono _ _ _
      | exact headgatekit_SamePool.mono _ _ _ _ _
      | exact headgatelaw14_awake.mono _
      | exact headgateref14_Home.mono _ _ _ _
      | exact headgateref14_Left.mono _ _ _
      | exact headgateref14_Taken.mono _ _ _
      | exact pool_Home.mono _ _ _ _
      | exact pool_Left.mono _ _ _
      | exact pool_Taken.mono _ _ _
      | exact LeO.none _
      | refine LeO.ite ?_ ?_
      | refine LeO.bind ?_ (fun _ => ?_)
theorem headgatelaw14_PoolLooks.mono : ∀ a0 a1 a2 k, LeO (headgatelaw14_PoolLooks.f k a0 a1 a2) (headgatelaw14_PoolLooks.f (k + 1) a0 a1 a2) := by
  intro a0 a1 a2 k
  have ih0 := headgatelaw14_PoolLooks.mono_l k
  unfold headgatelaw14_PoolLooks.f
  repeat' first
      | (with_reducible exact ih0 _ _ _ _ _ _)
      | (with_reducible exact headgatekit_SameInts.mono _ _ _)
      | (with_reducible exact headgatekit_SamePool.mono _ _ _ _ _)
      | (with_reducible exact headgatelaw14_awake.mono _)
      | (with_reducible exact headgateref14_Home.mono _ _ _ _)
      | (with_reducible exact headgateref14_Left.mono _ _ _)
      | (with_reducible exact headgateref14_Taken.mono _ _ _)
      | (with_reducible exact pool_Home.mono _ _ _ _)
      | (with_reducible exact pool_Left.mono _ _ _)
      | (with_reducible exact pool_Taken.mono _ _ _)
      | (with_reducible exact LeO.refl _)
      | (with_reducible exact LeO.none _)
      | (with_reducible refine LeO.ite ?_ ?_)
      | (with_reducible refine LeO.bind ?_ (fun _ => ?_))
      | exact ih0 _ _ _ _ _ _
      | exact headgatekit_SameInts.mono _ _ _
      | exact headgatekit_SamePool.mono _ _ _ _ _
      | exact headgatelaw14_awake.mono _
      | exact headgateref14_Home.mono _ _ _ _
      | exact headgateref14_Left.mono _ _ _
      | exact headgateref14_Taken.mono _ _ _
      | exact pool_Home.mono _ _ _ _
      | exact pool_Left.mono _ _ _
      | exact pool_Taken.mono _ _ _
      | exact LeO.none _
      | refine LeO.ite ?_ ?_
      | refine LeO.bind ?_ (fun _ => ?_)
set_option maxHeartbeats 8000000 in
set_option maxRecDepth 100000 in
theorem headgatelaw14_PoolLooks.calls (k : Nat) (a0_0 : Int) (A0_1 : Option Addr) (c0_1 : Nat) (l0_1 : List Int) (a1 : Int) (r : Bool) (w : World) (hr0_1 : Kd.C (Kd.int .i64) w A0_1 l0_1.length l0_1) (hc0_1 : l0_1.length ≤ c0_1) (h : headgatelaw14_PoolLooks.f k a0_0 l0_1 a1 = some r) (hT : Aside0 (r = true)) (gc0 : GC w) :
    Calls Tryd.prog 5 #[.agg #[.int .i64 a0_0, .slice A0_1 l0_1.length c0_1], .int .i64 a1] w fun e w' => e = .returned (.bool r) ∧ Below w.heap.size w w' := by
  have HG := Aside0.mk gc0
  clear gc0
  have hu24 := Tryd.underlying24
  have HR0_1 := Aside0.mk hr0_1
  have HC0_1 := Aside0.mk hc0_1
  clear hr0_1 hc0_1
  have HB := Aside0.mk (Below.refl w.heap.size w)
  have H : (if (l0_1.length : Int) > 60 then ((headgatelaw14_awake.f k).bind fun t353 => (some t353)) else ((headgatekit_OwnPool.f a0_0 l0_1).bind fun bt354 => ((pool_Left.f k bt354.1 bt354.2).bind fun bt359 => ((headgateref14_Left.f k a0_0 l0_1).bind fun bt361 => (if bt359.1 = bt361.1 then (headgatelaw14_PoolLooks.j0 k a1 (bt359.2 != bt361.2) a0_0 l0_1 bt354.1 bt354.2) else (headgatelaw14_PoolLooks.j0 k a1 true a0_0 l0_1 bt354.1 bt354.2)))))) = some r := h
  clear h
  by_cases c3 : (l0_1.length : Int) > 60
  · rw [if_pos c3] at H
    have c3b0 : decide (60 < (l0_1.length : Int)) = true := decide_eq_true c3
    have c3b1 : decide (60 < l0_1.length) = true := decide_eq_true (by omega)
    clear c3
    replace H := Option.bind_eq_some_iff.mp H
    obtain ⟨t353, A40, H⟩ := H
    replace H : (some t353) = some r := H
    have A4 := Aside0.mk A40
    clear A40
    obtain rfl := Option.some.inj H
    go_enter Tryd.func5, Tryd.ntmps5
    go_wp2_with (first | ((with_reducible refine gate_dst (N := 2) rfl ?_); refine box_event ?hg (N := 2) ?hd (cs := #[.int .i64 a0_0, .slice A0_1 l0_1.length c0_1]) (t := 24) ?hr ?_; (case hd => rfl); (case hg => rfl); (case hr => first | (go_simp; done) | (go_simp; rfl)); intro gb352 hg w5 hbox hb; have n0_ := Aside0.mk (below_step (by repeat (first | (with_reducible first | exact HB.out | apply below_alloc | apply pw_below_drewN | apply below_drew1) | exact HB.out)) hb); have n1_ := Aside0.mk (hbox); have n2_ := Aside0.mk ((by rw [hg]; exact (below_size (by repeat (first | (with_reducible first | exact HB.out | apply below_alloc | apply pw_below_drewN | apply below_drew1) | exact HB.out))) : w.heap.size ≤ gb352)); have n3_ := Aside0.mk ((by rw [hg]; exact (below_size (by repeat (first | (with_reducible first | exact HB.out | apply below_alloc | apply pw_below_drewN | apply below_drew1) | exact HB.out))) : w.heap.size ≤ gb352)); clear HB; have HB := n0_; have BK352 := n1_; have GW352 := n2_; have GE352 := n3_; clear n0_ n1_ n2_ n3_; clear hb hbox hg; have hcz6_0 : w5.cell? ⟨gb352, 0, none⟩ = some (.int .i64 a0_0) := (blk_cell BK352.out 0).trans rfl; have hcz6_1 : w5.cell? ⟨gb352, 1, none⟩ = some (.slice A0_1 l0_1.length c0_1) := (blk_cell BK352.out 1).trans rfl; have hfz6_0 := blk_frozen BK352.out 0; have hfz6_1 := blk_frozen BK352.out 1) | ((with_reducible refine gate_callee (f := 14) rfl ?_); refine goesL_ (some 22) rfl rfl Tryd.func14 (by kernel_rfl) rfl #[] rfl (by (try simp only [List.map_toArray, List.map_cons, List.map_nil]); first | done | rfl | (simp only [List.length_drop, List.length_take]; rfl)) ?_; (with_reducible refine (headgatelaw14_awake.calls k  t353 _ A4.out (gcB HG.out (by repeat (first | (with_reducible first | exact HB.out | apply below_alloc | apply pw_below_drewN | apply below_drew1 | refine below_set ?_ GE352.out) | exact HB.out)))).mono ?_); rintro e w7 ⟨rfl, hb⟩; refine ⟨_, rfl, ?_⟩; have n0_ := Aside0.mk (blk_below (g := gb352) (o := .cells #[.int .i64 a0_0, .slice A0_1 l0_1.length c0_1] 24 (0, 0)) (by (with_reducible repeat (first | refine blk_drewN ?_ _ | refine blk_drew ?_ | refine blk_alloc ?_ _)); exact BK352.out) hb); have n1_ := Aside0.mk (below_step (by repeat (first | (with_reducible first | exact HB.out | apply below_alloc | apply pw_below_drewN | apply below_drew1 | refine below_set ?_ GE352.out) | exact HB.out)) hb); clear BK352; clear HB; have BK352 := n0_; have HB := n1_; clear n0_ n1_; (try clear hb); (try clear hb2); (try clear hk); (try clear hi)))
    go_ret
    exact ⟨by first | rfl | (simp [errW_none, errW_some] <;> rfl) | (simp [*, errW_none, errW_some] <;> rfl), by repeat (first | (with_reducible first | exact HB.out | apply below_alloc | apply pw_below_drewN | apply below_drew1 | refine below_set ?_ GE352.out) | exact HB.out)⟩
  · rw [if_neg c3] at H
    have c3b0 : decide (60 < (l0_1.length : Int)) = false := decide_eq_false c3
    have c3b1 : decide (60 < l0_1.length) = false := decide_eq_false (by omega)
    clear c3
    replace H := Option.bind_eq_some_iff.mp H
    obtain ⟨⟨t354, t355⟩, A80, H⟩ := H
    replace H : ((pool_Left.f k t354 t355).bind fun bt359 => ((headgateref14_Left.f k a0_0 l0_1).bind fun bt361 => (if bt359.1 = bt361.1 then (headgatelaw14_PoolLooks.j0 k a1 (bt359.2 != bt361.2) a0_0 l0_1 t354 t355) else (headgatelaw14_PoolLooks.j0 k a1 true a0_0 l0_1 t354 t355)))) = some r := H
    have A8 := Aside0.mk A80
    clear A80
    replace H := Option.bind_eq_some_iff.mp H
    obtain ⟨⟨t359, t360⟩, A90, H⟩ := H
    replace H : ((headgateref14_Left.f k a0_0 l0_1).bind fun bt361 => (if t359 = bt361.1 then (headgatelaw14_PoolLooks.j0 k a1 (t360 != bt361.2) a0_0 l0_1 t354 t355) else (headgatelaw14_PoolLooks.j0 k a1 true a0_0 l0_1 t354 t355))) = some r := H
    have A9 := Aside0.mk A90
    clear A90
    replace H := Option.bind_eq_some_iff.mp H
    obtain ⟨⟨t361, t362⟩, A100, H⟩ := H
    replace H : (if t359 = t361 then (headgatelaw14_PoolLooks.j0 k a1 (t360 != t362) a0_0 l0_1 t354 t355) else (headgatelaw14_PoolLooks.j0 k a1 true a0_0 l0_1 t354 t355)) = some r := H
    have A10 := Aside0.mk A100
    clear A100
    have HC11 := Aside0.mk H
    clear H
    go_enter Tryd.func5, Tryd.ntmps5
    go_upto_region 6 with (first | ((with_reducible refine gate_dst (N := 2) rfl ?_); refine box_event ?hg (N := 2) ?hd (cs := #[.int .i64 a0_0, .slice A0_1 l0_1.length c0_1]) (t := 24) ?hr ?_; (case hd => rfl); (case hg => rfl); (case hr => first | (go_simp; done) | (go_simp; rfl)); intro gb352 hg w12 hbox hb; have n0_ := Aside0.mk (below_step (by repeat (first | (with_reducible first | exact HB.out | apply below_alloc | apply pw_below_drewN | apply below_drew1) | exact HB.out)) hb); have n1_ := Aside0.mk (hbox); have n2_ := Aside0.mk ((by rw [hg]; exact (below_size (by repeat (first | (with_reducible first | exact HB.out | apply below_alloc | apply pw_below_drewN | apply below_drew1) | exact HB.out))) : w.heap.size ≤ gb352)); have n3_ := Aside0.mk ((by rw [hg]; exact (below_size (by repeat (first | (with_reducible first | exact HB.out | apply below_alloc | apply pw_below_drewN | apply below_drew1) | exact HB.out))) : w.heap.size ≤ gb352)); clear HB; have HB := n0_; have BK352 := n1_; have GW352 := n2_; have GE352 := n3_; clear n0_ n1_ n2_ n3_; clear hb hbox hg; have hcz13_0 : w12.cell? ⟨gb352, 0, none⟩ = some (.int .i64 a0_0) := (blk_cell BK352.out 0).trans rfl; have hcz13_1 : w12.cell? ⟨gb352, 1, none⟩ = some (.slice A0_1 l0_1.length c0_1) := (blk_cell BK352.out 1).trans rfl; have hfz13_0 := blk_frozen BK352.out 0; have hfz13_1 := blk_frozen BK352.out 1) | ((with_reducible refine gate_callee (f := 15) rfl ?_); refine goesL_ (some 24) rfl rfl Tryd.func15 (by kernel_rfl) rfl #[.agg #[.int .i64 a0_0, .slice A0_1 l0_1.length c0_1]] rfl (by (try simp only [List.map_toArray, List.map_cons, List.map_nil]); first | done | rfl | (simp only [List.length_drop, List.length_take]; rfl)) ?_; (with_reducible refine (headgatekit_OwnPool.calls a0_0 _ _ l0_1 t354 t355 _ ?side1 ?side2 A8.out).mono ?_); (case side1 => repeat (first | exact (Kd.C_below HR0_1.out HB.out) | (with_reducible refine Kd.C_alloc ?_ _) | (with_reducible refine Kd.C_drewN ?_ _) | (with_reducible refine Kd.C_drew ?_))); (case side2 => exact HC0_1.out); rintro e w14 ⟨v356, rfl, ho0, hb⟩; refine ⟨_, rfl, ?_⟩; have n0_ := Aside0.mk (Kd.R_lower ho0 (below_size (by repeat (first | (with_reducible first | exact HB.out | apply below_alloc | apply pw_below_drewN | apply below_drew1 | refine below_set ?_ GE352.out) | exact HB.out)))); have n1_ := Aside0.mk (blk_below (g := gb352) (o := .cells #[.int .i64 a0_0, .slice A0_1 l0_1.length c0_1] 24 (0, 0)) (by (with_reducible repeat (first | refine blk_drewN ?_ _ | refine blk_drew ?_ | refine blk_alloc ?_ _)); exact BK352.out) hb); have n2_ := Aside0.mk (below_step (by repeat (first | (with_reducible first | exact HB.out | apply below_alloc | apply pw_below_drewN | apply below_drew1 | refine below_set ?_ GE352.out) | exact HB.out)) hb); clear BK352; clear HB; have HO357 := n0_; have BK352 := n1_; have HB := n2_; clear n0_ n1_ n2_; (try clear hb); (try clear hb2); (try clear hk); (try clear hi); (try clear ho0)) | ((with_reducible refine gate_dst (N := 5) rfl ?_); refine box_event ?hg (N := 5) ?hd (cs := #[.int .i64 0, .slice none 0 0]) (t := 24) ?hr ?_; (case hd => rfl); (case hg => rfl); (case hr => first | (go_simp; done) | (go_simp; rfl)); intro gb358 hg w15 hbox hb; have n0_ := Aside0.mk (Kd.R_below (by (with_reducible repeat (first | apply Kd.R_alloc | apply Kd.R_drewN | apply Kd.R_drew)); exact HO357.out) hb); have n1_ := Aside0.mk (blk_below (g := gb352) (o := .cells #[.int .i64 a0_0, .slice A0_1 l0_1.length c0_1] 24 (0, 0)) (by (with_reducible repeat (first | refine blk_drewN ?_ _ | refine blk_drew ?_ | refine blk_alloc ?_ _)); exact BK352.out) hb); have n2_ := Aside0.mk (below_step (by repeat (first | (with_reducible first | exact HB.out | apply below_alloc | apply pw_below_drewN | apply below_drew1 | refine below_set ?_ GE352.out) | exact HB.out)) hb); have n3_ := Aside0.mk (hbox); have n4_ := Aside0.mk ((by rw [hg]; exact (below_size (by repeat (first | (with_reducible first | exact HB.out | apply below_alloc | apply pw_below_drewN | apply below_drew1 | refine below_set ?_ GE352.out) | exact HB.out))) : w.heap.size ≤ gb358)); have n5_ := Aside0.mk ((by rw [hg]; exact (below_size (by repeat (first | (with_reducible first | exact HB.out | apply below_alloc | apply pw_below_drewN | apply below_drew1 | refine below_set ?_ GE352.out) | exact HB.out))) : w.heap.size ≤ gb358)); have n6_ := Aside0.mk ((by rw [hg]; exact Nat.ne_of_lt (blk_lt (g := gb352) (o := .cells #[.int .i64 a0_0, .slice A0_1 l0_1.length c0_1] 24 (0, 0)) (by (with_reducible repeat (first | refine blk_drewN ?_ _ | refine blk_drew ?_ | refine blk_alloc ?_ _)); exact BK352.out)) : gb352 ≠ gb358)); have n7_ := Aside0.mk ((by rw [hg]; exact Nat.ne_of_gt (blk_lt (g := gb352) (o := .cells #[.int .i64 a0_0, .slice A0_1 l0_1.length c0_1] 24 (0, 0)) (by (with_reducible repeat (first | refine blk_drewN ?_ _ | refine blk_drew ?_ | refine blk_alloc ?_ _)); exact BK352.out)) : gb358 ≠ gb352)); clear HO357; clear BK352; clear HB; have HO357 := n0_; have BK352 := n1_; have HB := n2_; have BK358 := n3_; have GW358 := n4_; have GE358 := n5_; have NB352_358 := n6_; have NB358_352 := n7_; clear n0_ n1_ n2_ n3_ n4_ n5_ n6_ n7_; clear hb hbox hg; have hnb16 := NB358_352.out; have hnc16 := NB352_358.out; have hcz17_0 : w15.cell? ⟨gb358, 0, none⟩ = some (.int .i64 0) := (blk_cell BK358.out 0).trans rfl; have hcz17_1 : w15.cell? ⟨gb358, 1, none⟩ = some (.slice none 0 0) := (blk_cell BK358.out 1).trans rfl; have hfz17_0 := blk_frozen BK358.out 0; have hfz17_1 := blk_frozen BK358.out 1; obtain ⟨Ao18, co18, eo18⟩ := Kd.R_slice HO357.out; subst eo18) | ((with_reducible refine gate_callee (f := 22) rfl ?_); refine goesL_ (some 27) rfl rfl Tryd.func22 (by kernel_rfl) rfl #[.agg #[.int .i64 t354, .slice Ao18 t355.length co18]] rfl (by (try simp only [List.map_toArray, List.map_cons, List.map_nil]); first | done | rfl | (simp only [List.length_drop, List.length_take]; rfl)) ?_; (with_reducible refine (pool_Left.calls k t354 _ _ t355 t359 t360 _ ?side1 ?side2 A9.out).mono ?_); (case side1 => refine (Kd.R_reads' (e := 3) (base := w.heap.size) (ok := fun k_ => True) (n := t355.length) (c := co18) ?_).2.2; exact (by (with_reducible repeat (first | apply Kd.R_alloc | apply Kd.R_drewN | apply Kd.R_drew)); exact (Kd.R_mono (Kd.R_far (p := ⟨gb358, 1, none⟩) (Kd.R_far (p := ⟨gb358, 0, none⟩) (Kd.R_types HO357.out BK358.out (by decide)) (fun _ hk => hk.2) (.int .i64 t354)) (fun _ hk => hk.2) (.slice Ao18 t355.length co18)) (fun _ h_ => h_.1)))); (case side2 => exact (Kd.R_reads' HO357.out).2.1); rintro e w19 ⟨rfl, hb⟩; refine ⟨_, rfl, ?_⟩; have n0_ := Aside0.mk (Kd.R_below (by (with_reducible repeat (first | apply Kd.R_alloc | apply Kd.R_drewN | apply Kd.R_drew)); exact (Kd.R_mono (Kd.R_far (p := ⟨gb358, 1, none⟩) (Kd.R_far (p := ⟨gb358, 0, none⟩) (Kd.R_types HO357.out BK358.out (by decide)) (fun _ hk => hk.2) (.int .i64 t354)) (fun _ hk => hk.2) (.slice Ao18 t355.length co18)) (fun _ h_ => h_.1))) hb); have n1_ := Aside0.mk (blk_below (g := gb352) (o := .cells #[.int .i64 a0_0, .slice A0_1 l0_1.length c0_1] 24 (0, 0)) (by (with_reducible repeat (first | refine blk_drewN ?_ _ | refine blk_drew ?_ | refine blk_alloc ?_ _)); refine blk_far ?_ NB352_358.out _; (with_reducible repeat (first | refine blk_drewN ?_ _ | refine blk_drew ?_ | refine blk_alloc ?_ _)); refine blk_far ?_ NB352_358.out _; (with_reducible repeat (first | refine blk_drewN ?_ _ | refine blk_drew ?_ | refine blk_alloc ?_ _)); exact BK352.out) hb); have n2_ := Aside0.mk (blk_below (g := gb358) (o := .cells #[.int .i64 t354, .slice Ao18 t355.length co18] 24 (0, 0)) (by (with_reducible repeat (first | refine blk_drewN ?_ _ | refine blk_drew ?_ | refine blk_alloc ?_ _)); refine blk_put (cs := #[.int .i64 t354, .slice none 0 0]) ?_ 1 _ rfl; (with_reducible repeat (first | refine blk_drewN ?_ _ | refine blk_drew ?_ | refine blk_alloc ?_ _)); refine blk_put (cs := #[.int .i64 0, .slice none 0 0]) ?_ 0 _ rfl; (with_reducible repeat (first | refine blk_drewN ?_ _ | refine blk_drew ?_ | refine blk_alloc ?_ _)); exact BK358.out) hb); have n3_ := Aside0.mk (below_step (by repeat (first | (with_reducible first | exact HB.out | apply below_alloc | apply pw_below_drewN | apply below_drew1 | refine below_set ?_ GE352.out | refine below_set ?_ GE358.out) | exact HB.out)) hb); clear HO357; clear BK352; clear BK358; clear HB; have HO357 := n0_; have BK352 := n1_; have BK358 := n2_; have HB := n3_; clear n0_ n1_ n2_ n3_; (try clear hb); (try clear hb2); (try clear hk); (try clear hi); have hcz20_0 : w19.cell? ⟨gb352, 0, none⟩ = some (.int .i64 a0_0) := (blk_cell BK352.out 0).trans rfl; have hcz20_1 : w19.cell? ⟨gb352, 1, none⟩ = some (.slice A0_1 l0_1.length c0_1) := (blk_cell BK352.out 1).trans rfl; have hfz20_0 := blk_frozen BK352.out 0; have hfz20_1 := blk_frozen BK352.out 1) | ((with_reducible refine gate_callee (f := 23) rfl ?_); refine goesL_ (some 32) rfl rfl Tryd.func23 (by kernel_rfl) rfl #[.agg #[.int .i64 a0_0, .slice A0_1 l0_1.length c0_1]] rfl (by (try simp only [List.map_toArray, List.map_cons, List.map_nil]); first | done | rfl | (simp only [List.length_drop, List.length_take]; rfl)) ?_; (with_reducible refine (headgateref14_Left.calls k a0_0 _ _ l0_1 t361 t362 _ ?side1 ?side2 A10.out).mono ?_); (case side1 => repeat (first | exact (Kd.C_below HR0_1.out HB.out) | (with_reducible refine Kd.C_alloc ?_ _) | (with_reducible refine Kd.C_drewN ?_ _) | (with_reducible refine Kd.C_drew ?_))); (case side2 => exact HC0_1.out); rintro e w21 ⟨rfl, hb⟩; refine ⟨_, rfl, ?_⟩; have n0_ := Aside0.mk (Kd.R_below (by (with_reducible repeat (first | apply Kd.R_alloc | apply Kd.R_drewN | apply Kd.R_drew)); exact HO357.out) hb); have n1_ := Aside0.mk (blk_below (g := gb352) (o := .cells #[.int .i64 a0_0, .slice A0_1 l0_1.length c0_1] 24 (0, 0)) (by (with_reducible repeat (first | refine blk_drewN ?_ _ | refine blk_drew ?_ | refine blk_alloc ?_ _)); exact BK352.out) hb); have n2_ := Aside0.mk (blk_below (g := gb358) (o := .cells #[.int .i64 t354, .slice Ao18 t355.length co18] 24 (0, 0)) (by (with_reducible repeat (first | refine blk_drewN ?_ _ | refine blk_drew ?_ | refine blk_alloc ?_ _)); exact BK358.out) hb); have n3_ := Aside0.mk (below_step (by repeat (first | (with_reducible first | exact HB.out | apply below_alloc | apply pw_below_drewN | apply below_drew1 | refine below_set ?_ GE352.out | refine below_set ?_ GE358.out) | exact HB.out)) hb); clear HO357; clear BK352; clear BK358; clear HB; have HO357 := n0_; have BK352 := n1_; have BK358 := n2_; have HB := n3_; clear n0_ n1_ n2_ n3_; (try clear hb); (try clear hb2); (try clear hk); (try clear hi)))
    (try simp only [Act.put, List.setIfInBounds_toArray, List.set_cons_zero, List.set_cons_succ])
    go_cut [42] (fun v42 wc => ∃ (kq : Nat) (x42_10 : Bool), v42 = .bool x42_10 ∧ Aside0 (headgatelaw14_PoolLooks.j0 kq a1 x42_10 a0_0 l0_1 t354 t355 = some r) ∧ Aside0 (kq ≤ k) ∧ Aside0 (Kd.R (Kd.int .i64) 3 wc w.heap.size (fun _ => True) (.slice Ao18 t355.length co18) t355) ∧ Aside0 (wc.heap[gb352]? = some (.cells #[.int .i64 a0_0, (.slice A0_1 l0_1.length c0_1)] 24 (0, 0))) ∧ Aside0 (wc.heap[gb358]? = some (.cells #[.int .i64 t354, (.slice Ao18 t355.length co18)] 24 (0, 0))) ∧ Aside0 (Below w.heap.size w wc))
    case first =>
      have H := HC11.out
      clear HC11
      by_cases c22 : t359 = t361
      · rw [if_pos c22] at H
        have c22b0 : (t359 == t361) = true := beq_iff_eq.mpr c22
        have c22b1 : (t359 != t361) = false := bne_eq_false_iff_eq.mpr c22
        clear c22
        (first | rw [c22b0] | (simp only [i64_w, i32_w]; rw [c22b0]) | skip)
        have H' := Aside0.mk H
        clear H
        go_wp2
        go_meet
        case rel => exact ⟨_, ((t360 != t362)), (by first | rfl | (simp; done) | (simp [*]; done)), H', ⟨by first | omega | exact Nat.le_refl _⟩, ⟨by (with_reducible repeat (first | apply Kd.R_alloc | apply Kd.R_drewN | apply Kd.R_drew)); exact HO357.out⟩, ⟨by (with_reducible repeat (first | refine blk_drewN ?_ _ | refine blk_drew ?_ | refine blk_alloc ?_ _)); exact BK352.out⟩, ⟨by (with_reducible repeat (first | refine blk_drewN ?_ _ | refine blk_drew ?_ | refine blk_alloc ?_ _)); exact BK358.out⟩, ⟨by repeat (first | (with_reducible first | exact HB.out | apply below_alloc | apply pw_below_drewN | apply below_drew1 | refine below_set ?_ GE352.out | refine below_set ?_ GE358.out) | exact HB.out)⟩⟩
      · rw [if_neg c22] at H
        have c22b0 : (t359 == t361) = false := beq_eq_false_iff_ne.mpr c22
        have c22b1 : (t359 != t361) = true := bne_iff_ne.mpr c22
        (first | rw [c22b0] | (simp only [i64_w, i32_w]; rw [c22b0]) | skip)
        have H' := Aside0.mk H
        clear H
        go_wp2
        go_meet
        case rel => exact ⟨_, (true), (by first | rfl | (simp; done) | (simp [*]; done)), H', ⟨by first | omega | exact Nat.le_refl _⟩, ⟨by (with_reducible repeat (first | apply Kd.R_alloc | apply Kd.R_drewN | apply Kd.R_drew)); exact HO357.out⟩, ⟨by (with_reducible repeat (first | refine blk_drewN ?_ _ | refine blk_drew ?_ | refine blk_alloc ?_ _)); exact BK352.out⟩, ⟨by (with_reducible repeat (first | refine blk_drewN ?_ _ | refine blk_drew ?_ | refine blk_alloc ?_ _)); exact BK358.out⟩, ⟨by repeat (first | (with_reducible first | exact HB.out | apply below_alloc | apply pw_below_drewN | apply below_drew1 | refine below_set ?_ GE352.out | refine below_set ?_ GE358.out) | exact HB.out)⟩⟩
    case rest =>
      clear HC11
      try clear c1
      try clear c2
      try clear p2
      try clear c3
      try clear c3b0
      try clear c3b1
      try clear c5
      try clear c14
      try clear c15
      try clear c16
      try clear c22
      try clear c22b0
      try clear c22b1
      try clear hcz13_0
      try clear hcz13_1
      try clear hcz17_0
      try clear hcz17_1
      try clear hcz20_0
      try clear hcz20_1
      try clear hcz6_0
      try clear hcz6_1
      try clear hfz13_0
      try clear hfz13_1
      try clear hfz17_0
      try clear hfz17_1
      try clear hfz20_0
      try clear hfz20_1
      try clear hfz6_0
      try clear hfz6_1
      obtain ⟨kq, x42_10, rfl, HA, HJ10, HO_359001, BK352, BK358, HB⟩ := hcut
      cases kq with
      | zero => exact absurd HA.out (by simp [headgatelaw14_PoolLooks.j0])
      | succ kj10 =>
        have H := HA.out
        clear HA
        simp only [headgatelaw14_PoolLooks.j0] at H
        by_cases c23 : x42_10 = true
        · subst c23
          have H1 : (some false) = some r := by rw [if_pos rfl] at H; exact H
          clear H
          have H := H1
          clear H1
          exact absurd ((Option.some.inj H).trans hT.out) (by decide)
        · replace c23 := Bool.eq_false_iff.mpr c23
          subst c23
          have H1 : ((pool_Taken.f kj10 t354 t355).bind fun bt363 => ((headgateref14_Taken.f kj10 a0_0 l0_1).bind fun bt367 => ((pool_Home.f kj10 t354 t355 a1).bind fun bt371 => ((headgateref14_Home.f kj10 a0_0 l0_1 a1).bind fun bt374 => ((headgatekit_SameInts.f kj10 bt363.1 bt367.1).bind fun t377 => (if t377 = true then (if bt363.2 = bt367.2 then (if bt371.1 = bt374.1 then (if bt371.2.1 = bt374.2.1 then (if bt371.2.2 = bt374.2.2 then ((headgatekit_SamePool.f kj10 t354 t355 a0_0 l0_1).bind fun t378 => (if t378 = true then ((headgatelaw14_awake.f kj10).bind fun t379 => (some t379)) else (some false))) else (some false)) else (some false)) else (some false)) else (some false)) else (some false))))))) = some r := by rw [if_neg (show ¬ (false = true) by decide)] at H; exact H
          clear H
          have H := H1
          clear H1
          replace H := Option.bind_eq_some_iff.mp H
          obtain ⟨⟨t363, t366⟩, A240, H⟩ := H
          replace H : ((headgateref14_Taken.f kj10 a0_0 l0_1).bind fun bt367 => ((pool_Home.f kj10 t354 t355 a1).bind fun bt371 => ((headgateref14_Home.f kj10 a0_0 l0_1 a1).bind fun bt374 => ((headgatekit_SameInts.f kj10 t363 bt367.1).bind fun t377 => (if t377 = true then (if t366 = bt367.2 then (if bt371.1 = bt374.1 then (if bt371.2.1 = bt374.2.1 then (if bt371.2.2 = bt374.2.2 then ((headgatekit_SamePool.f kj10 t354 t355 a0_0 l0_1).bind fun t378 => (if t378 = true then ((headgatelaw14_awake.f kj10).bind fun t379 => (some t379)) else (some false))) else (some false)) else (some false)) else (some false)) else (some false)) else (some false)))))) = some r := H
          have A24 := Aside0.mk A240
          clear A240
          replace H := Option.bind_eq_some_iff.mp H
          obtain ⟨⟨t367, t370⟩, A250, H⟩ := H
          replace H : ((pool_Home.f kj10 t354 t355 a1).bind fun bt371 => ((headgateref14_Home.f kj10 a0_0 l0_1 a1).bind fun bt374 => ((headgatekit_SameInts.f kj10 t363 t367).bind fun t377 => (if t377 = true then (if t366 = t370 then (if bt371.1 = bt374.1 then (if bt371.2.1 = bt374.2.1 then (if bt371.2.2 = bt374.2.2 then ((headgatekit_SamePool.f kj10 t354 t355 a0_0 l0_1).bind fun t378 => (if t378 = true then ((headgatelaw14_awake.f kj10).bind fun t379 => (some t379)) else (some false))) else (some false)) else (some false)) else (some false)) else (some false)) else (some false))))) = some r := H
          have A25 := Aside0.mk A250
          clear A250
          replace H := Option.bind_eq_some_iff.mp H
          obtain ⟨⟨t371, t372, t373⟩, A260, H⟩ := H
          replace H : ((headgateref14_Home.f kj10 a0_0 l0_1 a1).bind fun bt374 => ((headgatekit_SameInts.f kj10 t363 t367).bind fun t377 => (if t377 = true then (if t366 = t370 then (if t371 = bt374.1 then (if t372 = bt374.2.1 then (if t373 = bt374.2.2 then ((headgatekit_SamePool.f kj10 t354 t355 a0_0 l0_1).bind fun t378 => (if t378 = true then ((headgatelaw14_awake.f kj10).bind fun t379 => (some t379)) else (some false))) else (some false)) else (some false)) else (some false)) else (some false)) else (some false)))) = some r := H
          have A26 := Aside0.mk A260
          clear A260
          replace H := Option.bind_eq_some_iff.mp H
          obtain ⟨⟨t374, t375, t376⟩, A270, H⟩ := H
          replace H : ((headgatekit_SameInts.f kj10 t363 t367).bind fun t377 => (if t377 = true then (if t366 = t370 then (if t371 = t374 then (if t372 = t375 then (if t373 = t376 then ((headgatekit_SamePool.f kj10 t354 t355 a0_0 l0_1).bind fun t378 => (if t378 = true then ((headgatelaw14_awake.f kj10).bind fun t379 => (some t379)) else (some false))) else (some false)) else (some false)) else (some false)) else (some false)) else (some false))) = some r := H
          have A27 := Aside0.mk A270
          clear A270
          replace H := Option.bind_eq_some_iff.mp H
          obtain ⟨t377, A280, H⟩ := H
          replace H : (if t377 = true then (if t366 = t370 then (if t371 = t374 then (if t372 = t375 then (if t373 = t376 then ((headgatekit_SamePool.f kj10 t354 t355 a0_0 l0_1).bind fun t378 => (if t378 = true then ((headgatelaw14_awake.f kj10).bind fun t379 => (some t379)) else (some false))) else (some false)) else (some false)) else (some false)) else (some false)) else (some false)) = some r := H
          have A28 := Aside0.mk A280
          clear A280
          by_cases c29 : t377 = true
          · subst c29
            have H1 : (if t366 = t370 then (if t371 = t374 then (if t372 = t375 then (if t373 = t376 then ((headgatekit_SamePool.f kj10 t354 t355 a0_0 l0_1).bind fun t378 => (if t378 = true then ((headgatelaw14_awake.f kj10).bind fun t379 => (some t379)) else (some false))) else (some false)) else (some false)) else (some false)) else (some false)) = some r := by rw [if_pos rfl] at H; exact H
            clear H
            have H := H1
            clear H1
            by_cases c30 : t366 = t370
            · rw [if_pos c30] at H
              have c30b0 : (t366 == t370) = true := beq_iff_eq.mpr c30
              have c30b1 : (t366 != t370) = false := bne_eq_false_iff_eq.mpr c30
              clear c30
              by_cases c31 : t371 = t374
              · rw [if_pos c31] at H
                have c31b0 : (t371 == t374) = true := beq_iff_eq.mpr c31
                have c31b1 : (t371 != t374) = false := bne_eq_false_iff_eq.mpr c31
                clear c31
                by_cases c32 : t372 = t375
                · rw [if_pos c32] at H
                  have c32b0 : (t372 == t375) = true := beq_iff_eq.mpr c32
                  have c32b1 : (t372 != t375) = false := bne_eq_false_iff_eq.mpr c32
                  clear c32
                  by_cases c33 : t373 = t376
                  · rw [if_pos c33] at H
                    have c33b0 : (t373 == t376) = true := beq_iff_eq.mpr c33
                    have c33b1 : (t373 != t376) = false := bne_eq_false_iff_eq.mpr c33
                    clear c33
                    replace H := Option.bind_eq_some_iff.mp H
                    obtain ⟨t378, A340, H⟩ := H
                    replace H : (if t378 = true then ((headgatelaw14_awake.f kj10).bind fun t379 => (some t379)) else (some false)) = some r := H
                    have A34 := Aside0.mk A340
                    clear A340
                    by_cases c35 : t378 = true
                    · subst c35
                      have H1 : ((headgatelaw14_awake.f kj10).bind fun t379 => (some t379)) = some r := by rw [if_pos rfl] at H; exact H
                      clear H
                      have H := H1
                      clear H1
                      replace H := Option.bind_eq_some_iff.mp H
                      obtain ⟨t379, A360, H⟩ := H
                      replace H : (some t379) = some r := H
                      have A36 := Aside0.mk A360
                      clear A360
                      obtain rfl := Option.some.inj H
                      have hnb37 := NB358_352.out
                      have hnc37 := NB352_358.out
                      have hcz38_0 : wc.cell? ⟨gb358, 0, none⟩ = some (.int .i64 t354) := (blk_cell BK358.out 0).trans rfl
                      have hcz38_1 : wc.cell? ⟨gb358, 1, none⟩ = some (.slice Ao18 t355.length co18) := (blk_cell BK358.out 1).trans rfl
                      have hfz38_0 := blk_frozen BK358.out 0
                      have hfz38_1 := blk_frozen BK358.out 1
                      go_wp2_with (first | ((with_reducible refine gate_callee (f := 24) rfl ?_); refine goesL_ (some 45) rfl rfl Tryd.func24 (by kernel_rfl) rfl #[.agg #[.int .i64 t354, .slice Ao18 t355.length co18]] rfl (by (try simp only [List.map_toArray, List.map_cons, List.map_nil]); first | done | rfl | (simp only [List.length_drop, List.length_take]; rfl)) ?_; (with_reducible refine (pool_Taken.calls kj10 t354 _ _ t355 t363 t366 _ ?side1 ?side2 A24.out (gcB HG.out (by repeat (first | (with_reducible first | exact HB.out | apply below_alloc | apply pw_below_drewN | apply below_drew1 | refine below_set ?_ GE352.out | refine below_set ?_ GE358.out) | exact HB.out)))).mono ?_); (case side1 => repeat (first | exact (Kd.R_reads' HO_359001.out).2.2 | (with_reducible refine Kd.C_alloc ?_ _) | (with_reducible refine Kd.C_drewN ?_ _) | (with_reducible refine Kd.C_drew ?_))); (case side2 => exact (Kd.R_reads' HO_359001.out).2.1); rintro e w39 ⟨v364, rfl, ho0, hb⟩; refine ⟨_, rfl, ?_⟩; have n0_ := Aside0.mk (Kd.R_elder' (by (with_reducible repeat (first | apply Kd.R_alloc | apply Kd.R_drewN | apply Kd.R_drew)); exact HO_359001.out) (Kd.R_base ho0) hb); have n1_ := Aside0.mk (Kd.R_lower (Kd.R_new' ho0 (Kd.R_lt (by (with_reducible repeat (first | apply Kd.R_alloc | apply Kd.R_drewN | apply Kd.R_drew)); exact HO_359001.out))) (below_size (by repeat (first | (with_reducible first | exact HB.out | apply below_alloc | apply pw_below_drewN | apply below_drew1 | refine below_set ?_ GE352.out | refine below_set ?_ GE358.out) | exact HB.out)))); have n2_ := Aside0.mk (blk_below (g := gb352) (o := .cells #[.int .i64 a0_0, .slice A0_1 l0_1.length c0_1] 24 (0, 0)) (by (with_reducible repeat (first | refine blk_drewN ?_ _ | refine blk_drew ?_ | refine blk_alloc ?_ _)); exact BK352.out) hb); have n3_ := Aside0.mk (blk_below (g := gb358) (o := .cells #[.int .i64 t354, .slice Ao18 t355.length co18] 24 (0, 0)) (by (with_reducible repeat (first | refine blk_drewN ?_ _ | refine blk_drew ?_ | refine blk_alloc ?_ _)); exact BK358.out) hb); have n4_ := Aside0.mk (below_step (by repeat (first | (with_reducible first | exact HB.out | apply below_alloc | apply pw_below_drewN | apply below_drew1 | refine below_set ?_ GE352.out | refine below_set ?_ GE358.out) | exact HB.out)) hb); clear HO_359001; clear BK352; clear BK358; clear HB; have HO_359001 := n0_; have HO365 := n1_; have BK352 := n2_; have BK358 := n3_; have HB := n4_; clear n0_ n1_ n2_ n3_ n4_; (try clear hb); (try clear hb2); (try clear hk); (try clear hi); (try clear ho0); have hcz40_0 : w39.cell? ⟨gb352, 0, none⟩ = some (.int .i64 a0_0) := (blk_cell BK352.out 0).trans rfl; have hcz40_1 : w39.cell? ⟨gb352, 1, none⟩ = some (.slice A0_1 l0_1.length c0_1) := (blk_cell BK352.out 1).trans rfl; have hfz40_0 := blk_frozen BK352.out 0; have hfz40_1 := blk_frozen BK352.out 1) | ((with_reducible refine gate_callee (f := 25) rfl ?_); refine goesL_ (some 50) rfl rfl Tryd.func25 (by kernel_rfl) rfl #[.agg #[.int .i64 a0_0, .slice A0_1 l0_1.length c0_1]] rfl (by (try simp only [List.map_toArray, List.map_cons, List.map_nil]); first | done | rfl | (simp only [List.length_drop, List.length_take]; rfl)) ?_; (with_reducible refine (headgateref14_Taken.calls kj10 a0_0 _ _ l0_1 t367 t370 _ ?side1 ?side2 A25.out).mono ?_); (case side1 => repeat (first | exact (Kd.C_below HR0_1.out HB.out) | (with_reducible refine Kd.C_alloc ?_ _) | (with_reducible refine Kd.C_drewN ?_ _) | (with_reducible refine Kd.C_drew ?_))); (case side2 => exact HC0_1.out); rintro e w41 ⟨v368, rfl, ho0, hb⟩; refine ⟨_, rfl, ?_⟩; have n0_ := Aside0.mk (Kd.R_elder' (by (with_reducible repeat (first | apply Kd.R_alloc | apply Kd.R_drewN | apply Kd.R_drew)); exact HO_359001.out) (Kd.R_base ho0) hb); have n1_ := Aside0.mk (Kd.R_elder' (by (with_reducible repeat (first | apply Kd.R_alloc | apply Kd.R_drewN | apply Kd.R_drew)); exact HO365.out) (Kd.R_base ho0) hb); have n2_ := Aside0.mk (Kd.R_lower (Kd.R_new' (Kd.R_new' ho0 (Kd.R_lt (by (with_reducible repeat (first | apply Kd.R_alloc | apply Kd.R_drewN | apply Kd.R_drew)); exact HO_359001.out))) (Kd.R_lt (by (with_reducible repeat (first | apply Kd.R_alloc | apply Kd.R_drewN | apply Kd.R_drew)); exact HO365.out))) (below_size (by repeat (first | (with_reducible first | exact HB.out | apply below_alloc | apply pw_below_drewN | apply below_drew1 | refine below_set ?_ GE352.out | refine below_set ?_ GE358.out) | exact HB.out)))); have n3_ := Aside0.mk (blk_below (g := gb352) (o := .cells #[.int .i64 a0_0, .slice A0_1 l0_1.length c0_1] 24 (0, 0)) (by (with_reducible repeat (first | refine blk_drewN ?_ _ | refine blk_drew ?_ | refine blk_alloc ?_ _)); exact BK352.out) hb); have n4_ := Aside0.mk (blk_below (g := gb358) (o := .cells #[.int .i64 t354, .slice Ao18 t355.length co18] 24 (0, 0)) (by (with_reducible repeat (first | refine blk_drewN ?_ _ | refine blk_drew ?_ | refine blk_alloc ?_ _)); exact BK358.out) hb); have n5_ := Aside0.mk (below_step (by repeat (first | (with_reducible first | exact HB.out | apply below_alloc | apply pw_below_drewN | apply below_drew1 | refine below_set ?_ GE352.out | refine below_set ?_ GE358.out) | exact HB.out)) hb); clear HO_359001; clear HO365; clear BK352; clear BK358; clear HB; have HO_359001 := n0_; have HO365 := n1_; have HO369 := n2_; have BK352 := n3_; have BK358 := n4_; have HB := n5_; clear n0_ n1_ n2_ n3_ n4_ n5_; (try clear hb); (try clear hb2); (try clear hk); (try clear hi); (try clear ho0); have hcz42_0 : w41.cell? ⟨gb358, 0, none⟩ = some (.int .i64 t354) := (blk_cell BK358.out 0).trans rfl; have hcz42_1 : w41.cell? ⟨gb358, 1, none⟩ = some (.slice Ao18 t355.length co18) := (blk_cell BK358.out 1).trans rfl; have hfz42_0 := blk_frozen BK358.out 0; have hfz42_1 := blk_frozen BK358.out 1) | ((with_reducible refine gate_callee (f := 26) rfl ?_); refine goesL_ (some 56) rfl rfl Tryd.func26 (by kernel_rfl) rfl #[.agg #[.int .i64 t354, .slice Ao18 t355.length co18], .int .i64 a1] rfl (by (try simp only [List.map_toArray, List.map_cons, List.map_nil]); first | done | rfl | (simp only [List.length_drop, List.length_take]; rfl)) ?_; (with_reducible refine (pool_Home.calls kj10 t354 _ _ t355 a1 t371 t372 t373 _ ?side1 ?side2 A26.out).mono ?_); (case side1 => repeat (first | exact (Kd.R_reads' HO_359001.out).2.2 | (with_reducible refine Kd.C_alloc ?_ _) | (with_reducible refine Kd.C_drewN ?_ _) | (with_reducible refine Kd.C_drew ?_))); (case side2 => exact (Kd.R_reads' HO_359001.out).2.1); rintro e w43 ⟨rfl, hb⟩; refine ⟨_, rfl, ?_⟩; have n0_ := Aside0.mk (Kd.R_below (by (with_reducible repeat (first | apply Kd.R_alloc | apply Kd.R_drewN | apply Kd.R_drew)); exact HO_359001.out) hb); have n1_ := Aside0.mk (Kd.R_below (by (with_reducible repeat (first | apply Kd.R_alloc | apply Kd.R_drewN | apply Kd.R_drew)); exact HO365.out) hb); have n2_ := Aside0.mk (Kd.R_below (by (with_reducible repeat (first | apply Kd.R_alloc | apply Kd.R_drewN | apply Kd.R_drew)); exact HO369.out) hb); have n3_ := Aside0.mk (blk_below (g := gb352) (o := .cells #[.int .i64 a0_0, .slice A0_1 l0_1.length c0_1] 24 (0, 0)) (by (with_reducible repeat (first | refine blk_drewN ?_ _ | refine blk_drew ?_ | refine blk_alloc ?_ _)); exact BK352.out) hb); have n4_ := Aside0.mk (blk_below (g := gb358) (o := .cells #[.int .i64 t354, .slice Ao18 t355.length co18] 24 (0, 0)) (by (with_reducible repeat (first | refine blk_drewN ?_ _ | refine blk_drew ?_ | refine blk_alloc ?_ _)); exact BK358.out) hb); have n5_ := Aside0.mk (below_step (by repeat (first | (with_reducible first | exact HB.out | apply below_alloc | apply pw_below_drewN | apply below_drew1 | refine below_set ?_ GE352.out | refine below_set ?_ GE358.out) | exact HB.out)) hb); clear HO_359001; clear HO365; clear HO369; clear BK352; clear BK358; clear HB; have HO_359001 := n0_; have HO365 := n1_; have HO369 := n2_; have BK352 := n3_; have BK358 := n4_; have HB := n5_; clear n0_ n1_ n2_ n3_ n4_ n5_; (try clear hb); (try clear hb2); (try clear hk); (try clear hi); have hcz44_0 : w43.cell? ⟨gb352, 0, none⟩ = some (.int .i64 a0_0) := (blk_cell BK352.out 0).trans rfl; have hcz44_1 : w43.cell? ⟨gb352, 1, none⟩ = some (.slice A0_1 l0_1.length c0_1) := (blk_cell BK352.out 1).trans rfl; have hfz44_0 := blk_frozen BK352.out 0; have hfz44_1 := blk_frozen BK352.out 1) | ((with_reducible refine gate_callee (f := 27) rfl ?_); refine goesL_ (some 63) rfl rfl Tryd.func27 (by kernel_rfl) rfl #[.agg #[.int .i64 a0_0, .slice A0_1 l0_1.length c0_1], .int .i64 a1] rfl (by (try simp only [List.map_toArray, List.map_cons, List.map_nil]); first | done | rfl | (simp only [List.length_drop, List.length_take]; rfl)) ?_; (with_reducible refine (headgateref14_Home.calls kj10 a0_0 _ _ l0_1 a1 t374 t375 t376 _ ?side1 ?side2 A27.out).mono ?_); (case side1 => repeat (first | exact (Kd.C_below HR0_1.out HB.out) | (with_reducible refine Kd.C_alloc ?_ _) | (with_reducible refine Kd.C_drewN ?_ _) | (with_reducible refine Kd.C_drew ?_))); (case side2 => exact HC0_1.out); rintro e w45 ⟨rfl, hb⟩; refine ⟨_, rfl, ?_⟩; have n0_ := Aside0.mk (Kd.R_below (by (with_reducible repeat (first | apply Kd.R_alloc | apply Kd.R_drewN | apply Kd.R_drew)); exact HO_359001.out) hb); have n1_ := Aside0.mk (Kd.R_below (by (with_reducible repeat (first | apply Kd.R_alloc | apply Kd.R_drewN | apply Kd.R_drew)); exact HO365.out) hb); have n2_ := Aside0.mk (Kd.R_below (by (with_reducible repeat (first | apply Kd.R_alloc | apply Kd.R_drewN | apply Kd.R_drew)); exact HO369.out) hb); have n3_ := Aside0.mk (blk_below (g := gb352) (o := .cells #[.int .i64 a0_0, .slice A0_1 l0_1.length c0_1] 24 (0, 0)) (by (with_reducible repeat (first | refine blk_drewN ?_ _ | refine blk_drew ?_ | refine blk_alloc ?_ _)); exact BK352.out) hb); have n4_ := Aside0.mk (blk_below (g := gb358) (o := .cells #[.int .i64 t354, .slice Ao18 t355.length co18] 24 (0, 0)) (by (with_reducible repeat (first | refine blk_drewN ?_ _ | refine blk_drew ?_ | refine blk_alloc ?_ _)); exact BK358.out) hb); have n5_ := Aside0.mk (below_step (by repeat (first | (with_reducible first | exact HB.out | apply below_alloc | apply pw_below_drewN | apply below_drew1 | refine below_set ?_ GE352.out | refine below_set ?_ GE358.out) | exact HB.out)) hb); clear HO_359001; clear HO365; clear HO369; clear BK352; clear BK358; clear HB; have HO_359001 := n0_; have HO365 := n1_; have HO369 := n2_; have BK352 := n3_; have BK358 := n4_; have HB := n5_; clear n0_ n1_ n2_ n3_ n4_ n5_; (try clear hb); (try clear hb2); (try clear hk); (try clear hi); obtain ⟨Ao46, co46, eo46⟩ := Kd.R_slice HO365.out; subst eo46; obtain ⟨Ao47, co47, eo47⟩ := Kd.R_slice HO369.out; subst eo47) | ((with_reducible refine gate_callee (f := 28) rfl ?_); refine goesL_ (some 69) rfl rfl Tryd.func28 (by kernel_rfl) rfl #[.slice Ao46 t363.length co46, .slice Ao47 t367.length co47] rfl (by (try simp only [List.map_toArray, List.map_cons, List.map_nil]); first | done | rfl | (simp only [List.length_drop, List.length_take]; rfl)) ?_; (with_reducible refine (headgatekit_SameInts.calls kj10 _ _ t363 _ _ t367 true _ ?side1 ?side2 ?side3 ?side4 A28.out).mono ?_); (case side1 => repeat (first | exact (Kd.R_reads' HO365.out).2.2 | (with_reducible refine Kd.C_alloc ?_ _) | (with_reducible refine Kd.C_drewN ?_ _) | (with_reducible refine Kd.C_drew ?_))); (case side2 => exact (Kd.R_reads' HO365.out).2.1); (case side3 => repeat (first | exact (Kd.R_reads' HO369.out).2.2 | (with_reducible refine Kd.C_alloc ?_ _) | (with_reducible refine Kd.C_drewN ?_ _) | (with_reducible refine Kd.C_drew ?_))); (case side4 => exact (Kd.R_reads' HO369.out).2.1); rintro e w' ⟨rfl, ⟨nd, rfl⟩⟩; refine ⟨_, rfl, ?_⟩; have hcz48_0 : w45.cell? ⟨gb358, 0, none⟩ = some (.int .i64 t354) := (blk_cell BK358.out 0).trans rfl; have hcz48_1 : w45.cell? ⟨gb358, 1, none⟩ = some (.slice Ao18 t355.length co18) := (blk_cell BK358.out 1).trans rfl; have hfz48_0 := blk_frozen BK358.out 0; have hfz48_1 := blk_frozen BK358.out 1; have hcz49_0 : w45.cell? ⟨gb352, 0, none⟩ = some (.int .i64 a0_0) := (blk_cell BK352.out 0).trans rfl; have hcz49_1 : w45.cell? ⟨gb352, 1, none⟩ = some (.slice A0_1 l0_1.length c0_1) := (blk_cell BK352.out 1).trans rfl; have hfz49_0 := blk_frozen BK352.out 0; have hfz49_1 := blk_frozen BK352.out 1) | (go_at_call 13; (with_reducible refine (headgatekit_SamePool.calls kj10 t354 _ _ t355 a0_0 _ _ l0_1 true _ ?side1 ?side2 ?side3 ?side4 A34.out).mono ?_); (case side1 => repeat (first | exact (Kd.R_reads' HO_359001.out).2.2 | (with_reducible refine Kd.C_alloc ?_ _) | (with_reducible refine Kd.C_drewN ?_ _) | (with_reducible refine Kd.C_drew ?_))); (case side2 => exact (Kd.R_reads' HO_359001.out).2.1); (case side3 => repeat (first | exact (Kd.C_below HR0_1.out (by repeat (first | (with_reducible first | exact HB.out | apply below_alloc | apply pw_below_drewN | apply below_drew1 | refine below_set ?_ GE352.out | refine below_set ?_ GE358.out) | exact HB.out))) | (with_reducible refine Kd.C_alloc ?_ _) | (with_reducible refine Kd.C_drewN ?_ _) | (with_reducible refine Kd.C_drew ?_))); (case side4 => exact HC0_1.out); rintro e w50 ⟨rfl, hb⟩; have n0_ := Aside0.mk (Kd.R_below (by (with_reducible repeat (first | apply Kd.R_alloc | apply Kd.R_drewN | apply Kd.R_drew)); exact HO_359001.out) hb); have n1_ := Aside0.mk (Kd.R_below (by (with_reducible repeat (first | apply Kd.R_alloc | apply Kd.R_drewN | apply Kd.R_drew)); exact HO365.out) hb); have n2_ := Aside0.mk (Kd.R_below (by (with_reducible repeat (first | apply Kd.R_alloc | apply Kd.R_drewN | apply Kd.R_drew)); exact HO369.out) hb); have n3_ := Aside0.mk (blk_below (g := gb352) (o := .cells #[.int .i64 a0_0, .slice A0_1 l0_1.length c0_1] 24 (0, 0)) (by (with_reducible repeat (first | refine blk_drewN ?_ _ | refine blk_drew ?_ | refine blk_alloc ?_ _)); exact BK352.out) hb); have n4_ := Aside0.mk (blk_below (g := gb358) (o := .cells #[.int .i64 t354, .slice Ao18 t355.length co18] 24 (0, 0)) (by (with_reducible repeat (first | refine blk_drewN ?_ _ | refine blk_drew ?_ | refine blk_alloc ?_ _)); exact BK358.out) hb); have n5_ := Aside0.mk (below_step (by repeat (first | (with_reducible first | exact HB.out | apply below_alloc | apply pw_below_drewN | apply below_drew1 | refine below_set ?_ GE352.out | refine below_set ?_ GE358.out) | exact HB.out)) hb); clear HO_359001; clear HO365; clear HO369; clear BK352; clear BK358; clear HB; have HO_359001 := n0_; have HO365 := n1_; have HO369 := n2_; have BK352 := n3_; have BK358 := n4_; have HB := n5_; clear n0_ n1_ n2_ n3_ n4_ n5_; (try clear hb); (try clear hb2); (try clear hk); (try clear hi)) | (go_at_call 14; (with_reducible refine (headgatelaw14_awake.calls kj10  t379 _ A36.out (gcB HG.out (by repeat (first | (with_reducible first | exact HB.out | apply below_alloc | apply pw_below_drewN | apply below_drew1 | refine below_set ?_ GE352.out | refine below_set ?_ GE358.out) | exact HB.out)))).mono ?_); rintro e w51 ⟨rfl, hb⟩; have n0_ := Aside0.mk (Kd.R_below (by (with_reducible repeat (first | apply Kd.R_alloc | apply Kd.R_drewN | apply Kd.R_drew)); exact HO_359001.out) hb); have n1_ := Aside0.mk (Kd.R_below (by (with_reducible repeat (first | apply Kd.R_alloc | apply Kd.R_drewN | apply Kd.R_drew)); exact HO365.out) hb); have n2_ := Aside0.mk (Kd.R_below (by (with_reducible repeat (first | apply Kd.R_alloc | apply Kd.R_drewN | apply Kd.R_drew)); exact HO369.out) hb); have n3_ := Aside0.mk (blk_below (g := gb352) (o := .cells #[.int .i64 a0_0, .slice A0_1 l0_1.length c0_1] 24 (0, 0)) (by (with_reducible repeat (first | refine blk_drewN ?_ _ | refine blk_drew ?_ | refine blk_alloc ?_ _)); exact BK352.out) hb); have n4_ := Aside0.mk (blk_below (g := gb358) (o := .cells #[.int .i64 t354, .slice Ao18 t355.length co18] 24 (0, 0)) (by (with_reducible repeat (first | refine blk_drewN ?_ _ | refine blk_drew ?_ | refine blk_alloc ?_ _)); exact BK358.out) hb); have n5_ := Aside0.mk (below_step (by repeat (first | (with_reducible first | exact HB.out | apply below_alloc | apply pw_below_drewN | apply below_drew1 | refine below_set ?_ GE352.out | refine below_set ?_ GE358.out) | exact HB.out)) hb); clear HO_359001; clear HO365; clear HO369; clear BK352; clear BK358; clear HB; have HO_359001 := n0_; have HO365 := n1_; have HO369 := n2_; have BK352 := n3_; have BK358 := n4_; have HB := n5_; clear n0_ n1_ n2_ n3_ n4_ n5_; (try clear hb); (try clear hb2); (try clear hk); (try clear hi)))
                      go_ret
                      exact ⟨by first | rfl | (simp [errW_none, errW_some] <;> rfl) | (simp [*, errW_none, errW_some] <;> rfl), by repeat (first | (with_reducible first | exact HB.out | apply below_alloc | apply pw_below_drewN | apply below_drew1 | refine below_set ?_ GE352.out | refine below_set ?_ GE358.out) | exact HB.out)⟩
                    · replace c35 := Bool.eq_false_iff.mpr c35
                      subst c35
                      have H1 : (some false) = some r := by rw [if_neg (show ¬ (false = true) by decide)] at H; exact H
                      clear H
                      have H := H1
                      clear H1
                      exact absurd ((Option.some.inj H).trans hT.out) (by decide)
                  · rw [if_neg c33] at H
                    have c33b0 : (t373 == t376) = false := beq_eq_false_iff_ne.mpr c33
                    have c33b1 : (t373 != t376) = true := bne_iff_ne.mpr c33
                    exact absurd ((Option.some.inj H).trans hT.out) (by decide)
                · rw [if_neg c32] at H
                  have c32b0 : (t372 == t375) = false := beq_eq_false_iff_ne.mpr c32
                  have c32b1 : (t372 != t375) = true := bne_iff_ne.mpr c32
                  exact absurd ((Option.some.inj H).trans hT.out) (by decide)
              · rw [if_neg c31] at H
                have c31b0 : (t371 == t374) = false := beq_eq_false_iff_ne.mpr c31
                have c31b1 : (t371 != t374) = true := bne_iff_ne.mpr c31
                exact absurd ((Option.some.inj H).trans hT.out) (by decide)
            · rw [if_neg c30] at H
              have c30b0 : (t366 == t370) = false := beq_eq_false_iff_ne.mpr c30
              have c30b1 : (t366 != t370) = true := bne_iff_ne.mpr c30
              exact absurd ((Option.some.inj H).trans hT.out) (by decide)
          · replace c29 := Bool.eq_false_iff.mpr c29
            subst c29
            have H1 : (some false) = some r := by rw [if_neg (show ¬ (false = true) by decide)] at H; exact H
            clear H
            have H := H1
            clear H1
            exact absurd ((Option.some.inj H).trans hT.out) (by decide)

/-! ### headgatelaw14_frames: function 30 -/
def headgatelaw14_frames.f (a0 : Int) (a1 : Int) : Option (Bool) := (pool_Frames.f a0).bind fun bt380 => (if bt380.2 = 0 then (some (bt380.1 == a1)) else (some false))
set_option maxHeartbeats 8000000 in
set_option maxRecDepth 100000 in
theorem headgatelaw14_frames.calls (a0 : Int) (a1 : Int) (r : Bool) (w : World) (h : headgatelaw14_frames.f a0 a1 = some r) :
    Calls Tryd.prog 30 #[.int .i64 a0, .int .i64 a1] w fun e w' => e = .returned (.bool r) ∧ Below w.heap.size w w' := by
  have HB := Aside0.mk (Below.refl w.heap.size w)
  have H : ((pool_Frames.f a0).bind fun bt380 => (if bt380.2 = 0 then (some (bt380.1 == a1)) else (some false))) = some r := h
  clear h
  replace H := Option.bind_eq_some_iff.mp H
  obtain ⟨⟨t380, t381⟩, A30, H⟩ := H
  replace H : (if t381 = 0 then (some (t380 == a1)) else (some false)) = some r := H
  have A3 := Aside0.mk A30
  clear A30
  by_cases c4 : t381 = 0
  · rw [if_pos c4] at H
    have c4b0 : (t381 == 0) = true := beq_iff_eq.mpr c4
    have c4b1 : (t381 != 0) = false := bne_eq_false_iff_eq.mpr c4
    clear c4
    obtain rfl := Option.some.inj H
    go_enter Tryd.func30, Tryd.ntmps30
    go_wp2_with (first | ((with_reducible refine gate_callee (f := 11) rfl ?_); refine goesL_ (some 9) rfl rfl Tryd.func11 (by kernel_rfl) rfl #[.int .i64 a0] rfl (by (try simp only [List.map_toArray, List.map_cons, List.map_nil]); first | done | rfl | (simp only [List.length_drop, List.length_take]; rfl)) ?_; (with_reducible refine (pool_Frames.calls a0 t380 t381 _ A3.out).mono ?_); rintro e w5 ⟨rfl, hb⟩; refine ⟨_, rfl, ?_⟩; have n0_ := Aside0.mk (below_step (by repeat (first | (with_reducible first | exact HB.out | apply below_alloc | apply pw_below_drewN | apply below_drew1) | exact HB.out)) hb); clear HB; have HB := n0_; clear n0_; (try clear hb); (try clear hb2); (try clear hk); (try clear hi)))
    go_ret
    exact ⟨by first | rfl | (simp [errW_none, errW_some] <;> rfl) | (simp [*, errW_none, errW_some] <;> rfl), by repeat (first | (with_reducible first | exact HB.out | apply below_alloc | apply pw_below_drewN | apply below_drew1) | exact HB.out)⟩
  · rw [if_neg c4] at H
    have c4b0 : (t381 == 0) = false := beq_eq_false_iff_ne.mpr c4
    have c4b1 : (t381 != 0) = true := bne_iff_ne.mpr c4
    obtain rfl := Option.some.inj H
    go_enter Tryd.func30, Tryd.ntmps30
    go_wp2_with (first | ((with_reducible refine gate_callee (f := 11) rfl ?_); refine goesL_ (some 9) rfl rfl Tryd.func11 (by kernel_rfl) rfl #[.int .i64 a0] rfl (by (try simp only [List.map_toArray, List.map_cons, List.map_nil]); first | done | rfl | (simp only [List.length_drop, List.length_take]; rfl)) ?_; (with_reducible refine (pool_Frames.calls a0 t380 t381 _ A3.out).mono ?_); rintro e w6 ⟨rfl, hb⟩; refine ⟨_, rfl, ?_⟩; have n0_ := Aside0.mk (below_step (by repeat (first | (with_reducible first | exact HB.out | apply below_alloc | apply pw_below_drewN | apply below_drew1) | exact HB.out)) hb); clear HB; have HB := n0_; clear n0_; (try clear hb); (try clear hb2); (try clear hk); (try clear hi)))
    go_ret
    exact ⟨by first | rfl | (simp [errW_none, errW_some] <;> rfl) | (simp [*, errW_none, errW_some] <;> rfl), by repeat (first | (with_reducible first | exact HB.out | apply below_alloc | apply pw_below_drewN | apply below_drew1) | exact HB.out)⟩

end Go.Proofs.YtompoghbdpfdjaaDoor.PA
