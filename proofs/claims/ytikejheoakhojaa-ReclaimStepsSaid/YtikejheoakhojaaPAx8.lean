-- written by a program of this seat's prover out of the translation; Lean checks it
import Derived.Test.YtikejheoakhojaaPAx0
import Derived.Test.YtikejheoakhojaaPAx5
import Derived.Test.YtikejheoakhojaaPAx7
namespace Go.Proofs.Ytikejheoakhojaa.PA
open Go.RowKit Go.Proofs.YtikejheoakhojaaW.PrintWords Go.Proofs.YtikejheoakhojaaW.PrintLast Go.Proofs.YtikejheoakhojaaW.PrintMore
attribute [local go_sem] max2_int min2_int max_two min_two max_three min_three max_four min_four   -- for this text's walks alone
set_option linter.unusedVariables false
set_option linter.unusedSimpArgs false

/-! ### headgateref33_Background: function 14 -/
mutual
def headgateref33_Background.j0 : Nat → Bool → Int → Int → Int → Int → Bool → Int → Int → Int → Int → Bool → Int → Int → Int → Int → Int → Option (Int × Int)
 | 0, _, _, _, _, _, _, _, _, _, _, _, _, _, _, _, _ => none
 | k + 1, x19, x177000, x177001, x177002, x177003, x177004, x177005, x177006, x177007, x177008, x177009, x177010, x177011, x177012, x177013, x177014 => if x19 = true then (some (2, 0)) else (if x177007 > 0 then (headgateref33_Background.j1 k x177009 x177000 x177001 x177002 x177003 x177004 x177005 x177006 x177007 x177008 x177009 x177010 x177011 x177012 x177013 x177014) else (headgateref33_Background.j1 k false x177000 x177001 x177002 x177003 x177004 x177005 x177006 x177007 x177008 x177009 x177010 x177011 x177012 x177013 x177014))
def headgateref33_Background.j1 : Nat → Bool → Int → Int → Int → Int → Bool → Int → Int → Int → Int → Bool → Int → Int → Int → Int → Int → Option (Int × Int)
 | 0, _, _, _, _, _, _, _, _, _, _, _, _, _, _, _, _ => none
 | k + 1, x30, x177000, x177001, x177002, x177003, x177004, x177005, x177006, x177007, x177008, x177009, x177010, x177011, x177012, x177013, x177014 => if x30 = true then (some (3, 0)) else (if x177007 > 0 then ((headgateref33_may.f k x177000 x177001 x177002 x177003 x177004 x177005 x177006 x177007 x177008 x177009 x177010 x177011 x177012 x177013 x177014).bind fun t178 => (if t178 = true then (some (4, 0)) else (some (0, 0)))) else (some (0, 0)))
end
def headgateref33_Background.f (k : Nat) (a0_0 a0_1 a0_2 a0_3 : Int) (a0_4 : Bool) (a0_5 a0_6 a0_7 a0_8 : Int) (a0_9 : Bool) (a0_10 a0_11 a0_12 a0_13 a0_14 : Int) : Option (Int × Int) := (headgateref33_Check.f k a0_0 a0_1 a0_2 a0_3 a0_4 a0_5 a0_6 a0_7 a0_8 a0_9 a0_10 a0_11 a0_12 a0_13 a0_14).bind fun t177 => (if t177 = 0 then (if a0_4 = true then (if a0_5 > 0 then (some (1, 0)) else (if a0_7 < a0_8 then (headgateref33_Background.j0 k (decide (a0_6 > 0)) a0_0 a0_1 a0_2 a0_3 a0_4 a0_5 a0_6 a0_7 a0_8 a0_9 a0_10 a0_11 a0_12 a0_13 a0_14) else (headgateref33_Background.j0 k false a0_0 a0_1 a0_2 a0_3 a0_4 a0_5 a0_6 a0_7 a0_8 a0_9 a0_10 a0_11 a0_12 a0_13 a0_14))) else (some (0, 0))) else (some (0, t177)))
theorem headgateref33_Background.mono_l : ∀ k, (∀ y0 y1 y2 y3 y4 y5 y6 y7 y8 y9 y10 y11 y12 y13 y14 y15, LeO (headgateref33_Background.j0 k y0 y1 y2 y3 y4 y5 y6 y7 y8 y9 y10 y11 y12 y13 y14 y15) (headgateref33_Background.j0 (k + 1) y0 y1 y2 y3 y4 y5 y6 y7 y8 y9 y10 y11 y12 y13 y14 y15)) ∧ (∀ y0 y1 y2 y3 y4 y5 y6 y7 y8 y9 y10 y11 y12 y13 y14 y15, LeO (headgateref33_Background.j1 k y0 y1 y2 y3 y4 y5 y6 y7 y8 y9 y10 y11 y12 y13 y14 y15) (headgateref33_Background.j1 (k + 1) y0 y1 y2 y3 y4 y5 y6 y7 y8 y9 y10 y11 y12 y13 y14 y15))
 | 0 => ⟨fun _ _ _ _ _ _ _ _ _ _ _ _ _ _ _ _ r h => by simp [headgateref33_Background.j0] at h, fun _ _ _ _ _ _ _ _ _ _ _ _ _ _ _ _ r h => by simp [headgateref33_Background.j1] at h⟩
 | k + 1 => by
  obtain ⟨ih0, ih1⟩ := headgateref33_Background.mono_l k
  refine ⟨?_, ?_⟩
  ·intro y0 y1 y2 y3 y4 y5 y6 y7 y8 y9 y10 y11 y12 y13 y14 y15
   unfold headgateref33_Background.j0
   repeat' first
   | (with_reducible exact ih0 _ _ _ _ _ _ _ _ _ _ _ _ _ _ _ _)
   | (with_reducible exact ih1 _ _ _ _ _ _ _ _ _ _ _ _ _ _ _ _)
   | (with_reducible exact headgateref33_Check.mono _ _ _ _ _ _ _ _ _ _ _ _ _ _ _ _)
   | (with_reducible exact headgateref33_may.mono _ _ _ _ _ _ _ _ _ _ _ _ _ _ _ _)
   | (with_reducible exact LeO.refl _)
   | (with_reducible exact LeO.none _)
   | (with_reducible refine LeO.ite ?_ ?_)
   | (with_reducible refine LeO.bind ?_ (fun _ => ?_))
   | exact ih0 _ _ _ _ _ _ _ _ _ _ _ _ _ _ _ _
   | exact ih1 _ _ _ _ _ _ _ _ _ _ _ _ _ _ _ _
   | exact headgateref33_Check.mono _ _ _ _ _ _ _ _ _ _ _ _ _ _ _ _
   | exact headgateref33_may.mono _ _ _ _ _ _ _ _ _ _ _ _ _ _ _ _
   | exact LeO.none _
   | refine LeO.ite ?_ ?_
   | refine LeO.bind ?_ (fun _ => ?_)
  ·intro y0 y1 y2 y3 y4 y5 y6 y7 y8 y9 y10 y11 y12 y13 y14 y15
   unfold headgateref33_Background.j1
   repeat' first
   | (with_reducible exact ih0 _ _ _ _ _ _ _ _ _ _ _ _ _ _ _ _)
   | (with_reducible exact ih1 _ _ _ _ _ _ _ _ _ _ _ _ _ _ _ _)
   | (with_reducible exact headgateref33_Check.mono _ _ _ _ _ _ _ _ _ _ _ _ _ _ _ _)
   | (with_reducible exact headgateref33_may.mono _ _ _ _ _ _ _ _ _ _ _ _ _ _ _ _)
   | (with_reducible exact LeO.refl _)
   | (with_reducible exact LeO.none _)
   | (with_reducible refine LeO.ite ?_ ?_)
   | (with_reducible refine LeO.bind ?_ (fun _ => ?_))
   | exact ih0 _ _ _ _ _ _ _ _ _ _ _ _ _ _ _ _
   | exact ih1 _ _ _ _ _ _ _ _ _ _ _ _ _ _ _ _
   | exact headgateref33_Check.mono _ _ _ _ _ _ _ _ _ _ _ _ _ _ _ _
   | exact headgateref33_may.mono _ _ _ _ _ _ _ _ _ _ _ _ _ _ _ _
   | exact LeO.none _
   | refine LeO.ite ?_ ?_
   | refine LeO.bind ?_ (fun _ => ?_)
theorem headgateref33_Background.mono : ∀ a0 a1 a2 a3 a4 a5 a6 a7 a8 a9 a10 a11 a12 a13 a14 k, LeO (headgateref33_Background.f k a0 a1 a2 a3 a4 a5 a6 a7 a8 a9 a10 a11 a12 a13 a14) (headgateref33_Background.f (k + 1) a0 a1 a2 a3 a4 a5 a6 a7 a8 a9 a10 a11 a12 a13 a14) := by
 intro a0 a1 a2 a3 a4 a5 a6 a7 a8 a9 a10 a11 a12 a13 a14 k
 obtain ⟨ih0, ih1⟩ := headgateref33_Background.mono_l k
 unfold headgateref33_Background.f
 repeat' first
   | (with_reducible exact ih0 _ _ _ _ _ _ _ _ _ _ _ _ _ _ _ _)
   | (with_reducible exact ih1 _ _ _ _ _ _ _ _ _ _ _ _ _ _ _ _)
   | (with_reducible exact headgateref33_Check.mono _ _ _ _ _ _ _ _ _ _ _ _ _ _ _ _)
   | (with_reducible exact headgateref33_may.mono _ _ _ _ _ _ _ _ _ _ _ _ _ _ _ _)
   | (with_reducible exact LeO.refl _)
   | (with_reducible exact LeO.none _)
   | (with_reducible refine LeO.ite ?_ ?_)
   | (with_reducible refine LeO.bind ?_ (fun _ => ?_))
   | exact ih0 _ _ _ _ _ _ _ _ _ _ _ _ _ _ _ _
   | exact ih1 _ _ _ _ _ _ _ _ _ _ _ _ _ _ _ _
   | exact headgateref33_Check.mono _ _ _ _ _ _ _ _ _ _ _ _ _ _ _ _
   | exact headgateref33_may.mono _ _ _ _ _ _ _ _ _ _ _ _ _ _ _ _
   | exact LeO.none _
   | refine LeO.ite ?_ ?_
   | refine LeO.bind ?_ (fun _ => ?_)
set_option maxHeartbeats 8000000 in
set_option maxRecDepth 100000 in
theorem headgateref33_Background.calls (k : Nat) (a0_0 a0_1 a0_2 a0_3 : Int) (a0_4 : Bool) (a0_5 a0_6 a0_7 a0_8 : Int) (a0_9 : Bool) (a0_10 a0_11 a0_12 a0_13 a0_14 : Int) (r1 : Int) (r2 : Int) (w : World) (h : headgateref33_Background.f k a0_0 a0_1 a0_2 a0_3 a0_4 a0_5 a0_6 a0_7 a0_8 a0_9 a0_10 a0_11 a0_12 a0_13 a0_14 = some (r1, r2)) :
  Calls Try.prog 14 #[.agg #[.int .i64 a0_0, .int .i64 a0_1, .int .i64 a0_2, .int .i64 a0_3, .bool a0_4, .int .i64 a0_5, .int .i64 a0_6, .int .i64 a0_7, .int .i64 a0_8, .bool a0_9, .int .i64 a0_10, .int .i64 a0_11, .int .i64 a0_12, .int .i64 a0_13, .int .i64 a0_14]] w fun e w' => e = .returned (.tuple #[.int .i64 r1, .int .i64 r2]) ∧ Below w.heap.size w w' := by
 have hu23 := Try.underlying23
 have HB := Aside0.mk (Below.refl w.heap.size w)
 have H : ((headgateref33_Check.f k a0_0 a0_1 a0_2 a0_3 a0_4 a0_5 a0_6 a0_7 a0_8 a0_9 a0_10 a0_11 a0_12 a0_13 a0_14).bind fun t177 => (if t177 = 0 then (if a0_4 = true then (if a0_5 > 0 then (some (1, 0)) else (if a0_7 < a0_8 then (headgateref33_Background.j0 k (decide (a0_6 > 0)) a0_0 a0_1 a0_2 a0_3 a0_4 a0_5 a0_6 a0_7 a0_8 a0_9 a0_10 a0_11 a0_12 a0_13 a0_14) else (headgateref33_Background.j0 k false a0_0 a0_1 a0_2 a0_3 a0_4 a0_5 a0_6 a0_7 a0_8 a0_9 a0_10 a0_11 a0_12 a0_13 a0_14))) else (some (0, 0))) else (some (0, t177)))) = some (r1, r2) := h
 clear h
 replace H := Option.bind_eq_some_iff.mp H
 obtain ⟨t177, A20, H⟩ := H
 replace H : (if t177 = 0 then (if a0_4 = true then (if a0_5 > 0 then (some (1, 0)) else (if a0_7 < a0_8 then (headgateref33_Background.j0 k (decide (a0_6 > 0)) a0_0 a0_1 a0_2 a0_3 a0_4 a0_5 a0_6 a0_7 a0_8 a0_9 a0_10 a0_11 a0_12 a0_13 a0_14) else (headgateref33_Background.j0 k false a0_0 a0_1 a0_2 a0_3 a0_4 a0_5 a0_6 a0_7 a0_8 a0_9 a0_10 a0_11 a0_12 a0_13 a0_14))) else (some (0, 0))) else (some (0, t177))) = some (r1, r2) := H
 have A2 := Aside0.mk A20
 clear A20
 by_cases c3 : t177 = 0
 ·rw [if_pos c3] at H
  have c3b0 : (t177 == 0) = true := beq_iff_eq.mpr c3
  have c3b1 : (t177 != 0) = false := bne_eq_false_iff_eq.mpr c3
  clear c3
  by_cases c4 : a0_4 = true
  ·subst c4
   have H1 : (if a0_5 > 0 then (some (1, 0)) else (if a0_7 < a0_8 then (headgateref33_Background.j0 k (decide (a0_6 > 0)) a0_0 a0_1 a0_2 a0_3 true a0_5 a0_6 a0_7 a0_8 a0_9 a0_10 a0_11 a0_12 a0_13 a0_14) else (headgateref33_Background.j0 k false a0_0 a0_1 a0_2 a0_3 true a0_5 a0_6 a0_7 a0_8 a0_9 a0_10 a0_11 a0_12 a0_13 a0_14))) = some (r1, r2) := by rw [if_pos rfl] at H; exact H
   clear H
   have H := H1
   clear H1
   by_cases c5 : a0_5 > 0
   ·rw [if_pos c5] at H
    have c5b0 : decide (0 < a0_5) = true := decide_eq_true c5
    clear c5
    simp only [Option.some.injEq, Prod.mk.injEq] at H
    obtain ⟨rfl, rfl⟩ := H
    go_enter Try.func14, Try.ntmps14
    go_wp2_with (first | ((with_reducible refine gate_dst (N := 1) rfl ?_); refine box_event ?hg (N := 1) ?hd (cs := #[.int .i64 a0_0, .int .i64 a0_1, .int .i64 a0_2, .int .i64 a0_3, .bool true, .int .i64 a0_5, .int .i64 a0_6, .int .i64 a0_7, .int .i64 a0_8, .bool a0_9, .int .i64 a0_10, .int .i64 a0_11, .int .i64 a0_12, .int .i64 a0_13, .int .i64 a0_14]) (t := 23) ?hr ?_; (case hd => rfl); (case hg => rfl); (case hr => first | (go_simp; done) | (go_simp; rfl)); intro gb176 hg w6 hbox hb; have n0_ := Aside0.mk (below_step (by repeat (first | (with_reducible first | exact HB.out | apply below_alloc | apply pw_below_drewN | apply below_drew1) | exact HB.out)) hb); have n1_ := Aside0.mk (hbox); have n2_ := Aside0.mk ((by rw [hg]; exact (below_size (by repeat (first | (with_reducible first | exact HB.out | apply below_alloc | apply pw_below_drewN | apply below_drew1) | exact HB.out))) : w.heap.size ≤ gb176)); have n3_ := Aside0.mk ((by rw [hg]; exact (below_size (by repeat (first | (with_reducible first | exact HB.out | apply below_alloc | apply pw_below_drewN | apply below_drew1) | exact HB.out))) : w.heap.size ≤ gb176)); clear HB; have HB := n0_; have BK176 := n1_; have GW176 := n2_; have GE176 := n3_; clear n0_ n1_ n2_ n3_; clear hb hbox hg; have hcz7_0 : w6.cell? ⟨gb176, 0, none⟩ = some (.int .i64 a0_0) := (blk_cell BK176.out 0).trans rfl; have hcz7_1 : w6.cell? ⟨gb176, 1, none⟩ = some (.int .i64 a0_1) := (blk_cell BK176.out 1).trans rfl; have hcz7_2 : w6.cell? ⟨gb176, 2, none⟩ = some (.int .i64 a0_2) := (blk_cell BK176.out 2).trans rfl; have hcz7_3 : w6.cell? ⟨gb176, 3, none⟩ = some (.int .i64 a0_3) := (blk_cell BK176.out 3).trans rfl; have hcz7_4 : w6.cell? ⟨gb176, 4, none⟩ = some (.bool true) := (blk_cell BK176.out 4).trans rfl; have hcz7_5 : w6.cell? ⟨gb176, 5, none⟩ = some (.int .i64 a0_5) := (blk_cell BK176.out 5).trans rfl; have hcz7_6 : w6.cell? ⟨gb176, 6, none⟩ = some (.int .i64 a0_6) := (blk_cell BK176.out 6).trans rfl; have hcz7_7 : w6.cell? ⟨gb176, 7, none⟩ = some (.int .i64 a0_7) := (blk_cell BK176.out 7).trans rfl; have hcz7_8 : w6.cell? ⟨gb176, 8, none⟩ = some (.int .i64 a0_8) := (blk_cell BK176.out 8).trans rfl; have hcz7_9 : w6.cell? ⟨gb176, 9, none⟩ = some (.bool a0_9) := (blk_cell BK176.out 9).trans rfl; have hcz7_10 : w6.cell? ⟨gb176, 10, none⟩ = some (.int .i64 a0_10) := (blk_cell BK176.out 10).trans rfl; have hcz7_11 : w6.cell? ⟨gb176, 11, none⟩ = some (.int .i64 a0_11) := (blk_cell BK176.out 11).trans rfl; have hcz7_12 : w6.cell? ⟨gb176, 12, none⟩ = some (.int .i64 a0_12) := (blk_cell BK176.out 12).trans rfl; have hcz7_13 : w6.cell? ⟨gb176, 13, none⟩ = some (.int .i64 a0_13) := (blk_cell BK176.out 13).trans rfl; have hcz7_14 : w6.cell? ⟨gb176, 14, none⟩ = some (.int .i64 a0_14) := (blk_cell BK176.out 14).trans rfl; have hfz7_0 := blk_frozen BK176.out 0; have hfz7_1 := blk_frozen BK176.out 1; have hfz7_2 := blk_frozen BK176.out 2; have hfz7_3 := blk_frozen BK176.out 3; have hfz7_4 := blk_frozen BK176.out 4; have hfz7_5 := blk_frozen BK176.out 5; have hfz7_6 := blk_frozen BK176.out 6; have hfz7_7 := blk_frozen BK176.out 7; have hfz7_8 := blk_frozen BK176.out 8; have hfz7_9 := blk_frozen BK176.out 9; have hfz7_10 := blk_frozen BK176.out 10; have hfz7_11 := blk_frozen BK176.out 11; have hfz7_12 := blk_frozen BK176.out 12; have hfz7_13 := blk_frozen BK176.out 13; have hfz7_14 := blk_frozen BK176.out 14) | ((with_reducible refine gate_callee (f := 12) rfl ?_); refine goesL_ (some 6) rfl rfl Try.func12 (by kernel_rfl) rfl #[.agg #[.int .i64 a0_0, .int .i64 a0_1, .int .i64 a0_2, .int .i64 a0_3, .bool true, .int .i64 a0_5, .int .i64 a0_6, .int .i64 a0_7, .int .i64 a0_8, .bool a0_9, .int .i64 a0_10, .int .i64 a0_11, .int .i64 a0_12, .int .i64 a0_13, .int .i64 a0_14]] rfl (by (try simp only [List.map_toArray, List.map_cons, List.map_nil]); first | done | rfl | (simp only [List.length_drop, List.length_take]; rfl)) ?_; (with_reducible refine (headgateref33_Check.calls k a0_0 a0_1 a0_2 a0_3 true a0_5 a0_6 a0_7 a0_8 a0_9 a0_10 a0_11 a0_12 a0_13 a0_14 t177 _ A2.out).mono ?_); rintro e w8 ⟨rfl, hb⟩; refine ⟨_, rfl, ?_⟩; have n0_ := Aside0.mk (blk_below (g := gb176) (o := .cells #[.int .i64 a0_0, .int .i64 a0_1, .int .i64 a0_2, .int .i64 a0_3, .bool true, .int .i64 a0_5, .int .i64 a0_6, .int .i64 a0_7, .int .i64 a0_8, .bool a0_9, .int .i64 a0_10, .int .i64 a0_11, .int .i64 a0_12, .int .i64 a0_13, .int .i64 a0_14] 23 (0, 0)) (by (with_reducible repeat (first | refine blk_drewN ?_ _ | refine blk_drew ?_ | refine blk_alloc ?_ _)); exact BK176.out) hb); have n1_ := Aside0.mk (below_step (by repeat (first | (with_reducible first | exact HB.out | apply below_alloc | apply pw_below_drewN | apply below_drew1 | refine below_set ?_ GE176.out) | exact HB.out)) hb); clear BK176; clear HB; have BK176 := n0_; have HB := n1_; clear n0_ n1_; (try clear hb); (try clear hb2); (try clear hk); (try clear hi); have hcz9_0 : w8.cell? ⟨gb176, 0, none⟩ = some (.int .i64 a0_0) := (blk_cell BK176.out 0).trans rfl; have hcz9_1 : w8.cell? ⟨gb176, 1, none⟩ = some (.int .i64 a0_1) := (blk_cell BK176.out 1).trans rfl; have hcz9_2 : w8.cell? ⟨gb176, 2, none⟩ = some (.int .i64 a0_2) := (blk_cell BK176.out 2).trans rfl; have hcz9_3 : w8.cell? ⟨gb176, 3, none⟩ = some (.int .i64 a0_3) := (blk_cell BK176.out 3).trans rfl; have hcz9_4 : w8.cell? ⟨gb176, 4, none⟩ = some (.bool true) := (blk_cell BK176.out 4).trans rfl; have hcz9_5 : w8.cell? ⟨gb176, 5, none⟩ = some (.int .i64 a0_5) := (blk_cell BK176.out 5).trans rfl; have hcz9_6 : w8.cell? ⟨gb176, 6, none⟩ = some (.int .i64 a0_6) := (blk_cell BK176.out 6).trans rfl; have hcz9_7 : w8.cell? ⟨gb176, 7, none⟩ = some (.int .i64 a0_7) := (blk_cell BK176.out 7).trans rfl; have hcz9_8 : w8.cell? ⟨gb176, 8, none⟩ = some (.int .i64 a0_8) := (blk_cell BK176.out 8).trans rfl; have hcz9_9 : w8.cell? ⟨gb176, 9, none⟩ = some (.bool a0_9) := (blk_cell BK176.out 9).trans rfl; have hcz9_10 : w8.cell? ⟨gb176, 10, none⟩ = some (.int .i64 a0_10) := (blk_cell BK176.out 10).trans rfl; have hcz9_11 : w8.cell? ⟨gb176, 11, none⟩ = some (.int .i64 a0_11) := (blk_cell BK176.out 11).trans rfl; have hcz9_12 : w8.cell? ⟨gb176, 12, none⟩ = some (.int .i64 a0_12) := (blk_cell BK176.out 12).trans rfl; have hcz9_13 : w8.cell? ⟨gb176, 13, none⟩ = some (.int .i64 a0_13) := (blk_cell BK176.out 13).trans rfl; have hcz9_14 : w8.cell? ⟨gb176, 14, none⟩ = some (.int .i64 a0_14) := (blk_cell BK176.out 14).trans rfl; have hfz9_0 := blk_frozen BK176.out 0; have hfz9_1 := blk_frozen BK176.out 1; have hfz9_2 := blk_frozen BK176.out 2; have hfz9_3 := blk_frozen BK176.out 3; have hfz9_4 := blk_frozen BK176.out 4; have hfz9_5 := blk_frozen BK176.out 5; have hfz9_6 := blk_frozen BK176.out 6; have hfz9_7 := blk_frozen BK176.out 7; have hfz9_8 := blk_frozen BK176.out 8; have hfz9_9 := blk_frozen BK176.out 9; have hfz9_10 := blk_frozen BK176.out 10; have hfz9_11 := blk_frozen BK176.out 11; have hfz9_12 := blk_frozen BK176.out 12; have hfz9_13 := blk_frozen BK176.out 13; have hfz9_14 := blk_frozen BK176.out 14))
    go_ret2
    exact ⟨by first | rfl | (simp [errW_none, errW_some] <;> rfl) | (simp [*, errW_none, errW_some] <;> rfl), by repeat (first | (with_reducible first | exact HB.out | apply below_alloc | apply pw_below_drewN | apply below_drew1 | refine below_set ?_ GE176.out) | exact HB.out)⟩
   ·rw [if_neg c5] at H
    have c5b0 : decide (0 < a0_5) = false := decide_eq_false c5
    clear c5
    have HC10 := Aside0.mk H
    clear H
    go_enter Try.func14, Try.ntmps14
    go_upto_region 8 with (first | ((with_reducible refine gate_dst (N := 1) rfl ?_); refine box_event ?hg (N := 1) ?hd (cs := #[.int .i64 a0_0, .int .i64 a0_1, .int .i64 a0_2, .int .i64 a0_3, .bool true, .int .i64 a0_5, .int .i64 a0_6, .int .i64 a0_7, .int .i64 a0_8, .bool a0_9, .int .i64 a0_10, .int .i64 a0_11, .int .i64 a0_12, .int .i64 a0_13, .int .i64 a0_14]) (t := 23) ?hr ?_; (case hd => rfl); (case hg => rfl); (case hr => first | (go_simp; done) | (go_simp; rfl)); intro gb176 hg w11 hbox hb; have n0_ := Aside0.mk (below_step (by repeat (first | (with_reducible first | exact HB.out | apply below_alloc | apply pw_below_drewN | apply below_drew1) | exact HB.out)) hb); have n1_ := Aside0.mk (hbox); have n2_ := Aside0.mk ((by rw [hg]; exact (below_size (by repeat (first | (with_reducible first | exact HB.out | apply below_alloc | apply pw_below_drewN | apply below_drew1) | exact HB.out))) : w.heap.size ≤ gb176)); have n3_ := Aside0.mk ((by rw [hg]; exact (below_size (by repeat (first | (with_reducible first | exact HB.out | apply below_alloc | apply pw_below_drewN | apply below_drew1) | exact HB.out))) : w.heap.size ≤ gb176)); clear HB; have HB := n0_; have BK176 := n1_; have GW176 := n2_; have GE176 := n3_; clear n0_ n1_ n2_ n3_; clear hb hbox hg; have hcz12_0 : w11.cell? ⟨gb176, 0, none⟩ = some (.int .i64 a0_0) := (blk_cell BK176.out 0).trans rfl; have hcz12_1 : w11.cell? ⟨gb176, 1, none⟩ = some (.int .i64 a0_1) := (blk_cell BK176.out 1).trans rfl; have hcz12_2 : w11.cell? ⟨gb176, 2, none⟩ = some (.int .i64 a0_2) := (blk_cell BK176.out 2).trans rfl; have hcz12_3 : w11.cell? ⟨gb176, 3, none⟩ = some (.int .i64 a0_3) := (blk_cell BK176.out 3).trans rfl; have hcz12_4 : w11.cell? ⟨gb176, 4, none⟩ = some (.bool true) := (blk_cell BK176.out 4).trans rfl; have hcz12_5 : w11.cell? ⟨gb176, 5, none⟩ = some (.int .i64 a0_5) := (blk_cell BK176.out 5).trans rfl; have hcz12_6 : w11.cell? ⟨gb176, 6, none⟩ = some (.int .i64 a0_6) := (blk_cell BK176.out 6).trans rfl; have hcz12_7 : w11.cell? ⟨gb176, 7, none⟩ = some (.int .i64 a0_7) := (blk_cell BK176.out 7).trans rfl; have hcz12_8 : w11.cell? ⟨gb176, 8, none⟩ = some (.int .i64 a0_8) := (blk_cell BK176.out 8).trans rfl; have hcz12_9 : w11.cell? ⟨gb176, 9, none⟩ = some (.bool a0_9) := (blk_cell BK176.out 9).trans rfl; have hcz12_10 : w11.cell? ⟨gb176, 10, none⟩ = some (.int .i64 a0_10) := (blk_cell BK176.out 10).trans rfl; have hcz12_11 : w11.cell? ⟨gb176, 11, none⟩ = some (.int .i64 a0_11) := (blk_cell BK176.out 11).trans rfl; have hcz12_12 : w11.cell? ⟨gb176, 12, none⟩ = some (.int .i64 a0_12) := (blk_cell BK176.out 12).trans rfl; have hcz12_13 : w11.cell? ⟨gb176, 13, none⟩ = some (.int .i64 a0_13) := (blk_cell BK176.out 13).trans rfl; have hcz12_14 : w11.cell? ⟨gb176, 14, none⟩ = some (.int .i64 a0_14) := (blk_cell BK176.out 14).trans rfl; have hfz12_0 := blk_frozen BK176.out 0; have hfz12_1 := blk_frozen BK176.out 1; have hfz12_2 := blk_frozen BK176.out 2; have hfz12_3 := blk_frozen BK176.out 3; have hfz12_4 := blk_frozen BK176.out 4; have hfz12_5 := blk_frozen BK176.out 5; have hfz12_6 := blk_frozen BK176.out 6; have hfz12_7 := blk_frozen BK176.out 7; have hfz12_8 := blk_frozen BK176.out 8; have hfz12_9 := blk_frozen BK176.out 9; have hfz12_10 := blk_frozen BK176.out 10; have hfz12_11 := blk_frozen BK176.out 11; have hfz12_12 := blk_frozen BK176.out 12; have hfz12_13 := blk_frozen BK176.out 13; have hfz12_14 := blk_frozen BK176.out 14) | ((with_reducible refine gate_callee (f := 12) rfl ?_); refine goesL_ (some 6) rfl rfl Try.func12 (by kernel_rfl) rfl #[.agg #[.int .i64 a0_0, .int .i64 a0_1, .int .i64 a0_2, .int .i64 a0_3, .bool true, .int .i64 a0_5, .int .i64 a0_6, .int .i64 a0_7, .int .i64 a0_8, .bool a0_9, .int .i64 a0_10, .int .i64 a0_11, .int .i64 a0_12, .int .i64 a0_13, .int .i64 a0_14]] rfl (by (try simp only [List.map_toArray, List.map_cons, List.map_nil]); first | done | rfl | (simp only [List.length_drop, List.length_take]; rfl)) ?_; (with_reducible refine (headgateref33_Check.calls k a0_0 a0_1 a0_2 a0_3 true a0_5 a0_6 a0_7 a0_8 a0_9 a0_10 a0_11 a0_12 a0_13 a0_14 t177 _ A2.out).mono ?_); rintro e w13 ⟨rfl, hb⟩; refine ⟨_, rfl, ?_⟩; have n0_ := Aside0.mk (blk_below (g := gb176) (o := .cells #[.int .i64 a0_0, .int .i64 a0_1, .int .i64 a0_2, .int .i64 a0_3, .bool true, .int .i64 a0_5, .int .i64 a0_6, .int .i64 a0_7, .int .i64 a0_8, .bool a0_9, .int .i64 a0_10, .int .i64 a0_11, .int .i64 a0_12, .int .i64 a0_13, .int .i64 a0_14] 23 (0, 0)) (by (with_reducible repeat (first | refine blk_drewN ?_ _ | refine blk_drew ?_ | refine blk_alloc ?_ _)); exact BK176.out) hb); have n1_ := Aside0.mk (below_step (by repeat (first | (with_reducible first | exact HB.out | apply below_alloc | apply pw_below_drewN | apply below_drew1 | refine below_set ?_ GE176.out) | exact HB.out)) hb); clear BK176; clear HB; have BK176 := n0_; have HB := n1_; clear n0_ n1_; (try clear hb); (try clear hb2); (try clear hk); (try clear hi); have hcz14_0 : w13.cell? ⟨gb176, 0, none⟩ = some (.int .i64 a0_0) := (blk_cell BK176.out 0).trans rfl; have hcz14_1 : w13.cell? ⟨gb176, 1, none⟩ = some (.int .i64 a0_1) := (blk_cell BK176.out 1).trans rfl; have hcz14_2 : w13.cell? ⟨gb176, 2, none⟩ = some (.int .i64 a0_2) := (blk_cell BK176.out 2).trans rfl; have hcz14_3 : w13.cell? ⟨gb176, 3, none⟩ = some (.int .i64 a0_3) := (blk_cell BK176.out 3).trans rfl; have hcz14_4 : w13.cell? ⟨gb176, 4, none⟩ = some (.bool true) := (blk_cell BK176.out 4).trans rfl; have hcz14_5 : w13.cell? ⟨gb176, 5, none⟩ = some (.int .i64 a0_5) := (blk_cell BK176.out 5).trans rfl; have hcz14_6 : w13.cell? ⟨gb176, 6, none⟩ = some (.int .i64 a0_6) := (blk_cell BK176.out 6).trans rfl; have hcz14_7 : w13.cell? ⟨gb176, 7, none⟩ = some (.int .i64 a0_7) := (blk_cell BK176.out 7).trans rfl; have hcz14_8 : w13.cell? ⟨gb176, 8, none⟩ = some (.int .i64 a0_8) := (blk_cell BK176.out 8).trans rfl; have hcz14_9 : w13.cell? ⟨gb176, 9, none⟩ = some (.bool a0_9) := (blk_cell BK176.out 9).trans rfl; have hcz14_10 : w13.cell? ⟨gb176, 10, none⟩ = some (.int .i64 a0_10) := (blk_cell BK176.out 10).trans rfl; have hcz14_11 : w13.cell? ⟨gb176, 11, none⟩ = some (.int .i64 a0_11) := (blk_cell BK176.out 11).trans rfl; have hcz14_12 : w13.cell? ⟨gb176, 12, none⟩ = some (.int .i64 a0_12) := (blk_cell BK176.out 12).trans rfl; have hcz14_13 : w13.cell? ⟨gb176, 13, none⟩ = some (.int .i64 a0_13) := (blk_cell BK176.out 13).trans rfl; have hcz14_14 : w13.cell? ⟨gb176, 14, none⟩ = some (.int .i64 a0_14) := (blk_cell BK176.out 14).trans rfl; have hfz14_0 := blk_frozen BK176.out 0; have hfz14_1 := blk_frozen BK176.out 1; have hfz14_2 := blk_frozen BK176.out 2; have hfz14_3 := blk_frozen BK176.out 3; have hfz14_4 := blk_frozen BK176.out 4; have hfz14_5 := blk_frozen BK176.out 5; have hfz14_6 := blk_frozen BK176.out 6; have hfz14_7 := blk_frozen BK176.out 7; have hfz14_8 := blk_frozen BK176.out 8; have hfz14_9 := blk_frozen BK176.out 9; have hfz14_10 := blk_frozen BK176.out 10; have hfz14_11 := blk_frozen BK176.out 11; have hfz14_12 := blk_frozen BK176.out 12; have hfz14_13 := blk_frozen BK176.out 13; have hfz14_14 := blk_frozen BK176.out 14))
    (try simp only [Act.put, List.setIfInBounds_toArray, List.set_cons_zero, List.set_cons_succ])
    go_cut [19] (fun v19 wc => ∃ (kq : Nat) (x19_9 : Bool), v19 = .bool x19_9 ∧ Aside0 (headgateref33_Background.j0 kq x19_9 a0_0 a0_1 a0_2 a0_3 true a0_5 a0_6 a0_7 a0_8 a0_9 a0_10 a0_11 a0_12 a0_13 a0_14 = some (r1, r2)) ∧ Aside0 (kq ≤ k) ∧ Aside0 (wc.heap[gb176]? = some (.cells #[.int .i64 a0_0, .int .i64 a0_1, .int .i64 a0_2, .int .i64 a0_3, .bool true, .int .i64 a0_5, .int .i64 a0_6, .int .i64 a0_7, .int .i64 a0_8, .bool a0_9, .int .i64 a0_10, .int .i64 a0_11, .int .i64 a0_12, .int .i64 a0_13, .int .i64 a0_14] 23 (0, 0))) ∧ Aside0 (Below w.heap.size w wc))
    case first =>
     have H := HC10.out
     clear HC10
     by_cases c15 : a0_7 < a0_8
     ·rw [if_pos c15] at H
      have c15b0 : decide (a0_7 < a0_8) = true := decide_eq_true c15
      clear c15
      (first | rw [c15b0] | (simp only [i64_w, i32_w]; rw [c15b0]) | skip)
      have H' := Aside0.mk H
      clear H
      have hcz16_0 : w13.cell? ⟨gb176, 0, none⟩ = some (.int .i64 a0_0) := (blk_cell BK176.out 0).trans rfl
      have hcz16_1 : w13.cell? ⟨gb176, 1, none⟩ = some (.int .i64 a0_1) := (blk_cell BK176.out 1).trans rfl
      have hcz16_2 : w13.cell? ⟨gb176, 2, none⟩ = some (.int .i64 a0_2) := (blk_cell BK176.out 2).trans rfl
      have hcz16_3 : w13.cell? ⟨gb176, 3, none⟩ = some (.int .i64 a0_3) := (blk_cell BK176.out 3).trans rfl
      have hcz16_4 : w13.cell? ⟨gb176, 4, none⟩ = some (.bool true) := (blk_cell BK176.out 4).trans rfl
      have hcz16_5 : w13.cell? ⟨gb176, 5, none⟩ = some (.int .i64 a0_5) := (blk_cell BK176.out 5).trans rfl
      have hcz16_6 : w13.cell? ⟨gb176, 6, none⟩ = some (.int .i64 a0_6) := (blk_cell BK176.out 6).trans rfl
      have hcz16_7 : w13.cell? ⟨gb176, 7, none⟩ = some (.int .i64 a0_7) := (blk_cell BK176.out 7).trans rfl
      have hcz16_8 : w13.cell? ⟨gb176, 8, none⟩ = some (.int .i64 a0_8) := (blk_cell BK176.out 8).trans rfl
      have hcz16_9 : w13.cell? ⟨gb176, 9, none⟩ = some (.bool a0_9) := (blk_cell BK176.out 9).trans rfl
      have hcz16_10 : w13.cell? ⟨gb176, 10, none⟩ = some (.int .i64 a0_10) := (blk_cell BK176.out 10).trans rfl
      have hcz16_11 : w13.cell? ⟨gb176, 11, none⟩ = some (.int .i64 a0_11) := (blk_cell BK176.out 11).trans rfl
      have hcz16_12 : w13.cell? ⟨gb176, 12, none⟩ = some (.int .i64 a0_12) := (blk_cell BK176.out 12).trans rfl
      have hcz16_13 : w13.cell? ⟨gb176, 13, none⟩ = some (.int .i64 a0_13) := (blk_cell BK176.out 13).trans rfl
      have hcz16_14 : w13.cell? ⟨gb176, 14, none⟩ = some (.int .i64 a0_14) := (blk_cell BK176.out 14).trans rfl
      have hfz16_0 := blk_frozen BK176.out 0
      have hfz16_1 := blk_frozen BK176.out 1
      have hfz16_2 := blk_frozen BK176.out 2
      have hfz16_3 := blk_frozen BK176.out 3
      have hfz16_4 := blk_frozen BK176.out 4
      have hfz16_5 := blk_frozen BK176.out 5
      have hfz16_6 := blk_frozen BK176.out 6
      have hfz16_7 := blk_frozen BK176.out 7
      have hfz16_8 := blk_frozen BK176.out 8
      have hfz16_9 := blk_frozen BK176.out 9
      have hfz16_10 := blk_frozen BK176.out 10
      have hfz16_11 := blk_frozen BK176.out 11
      have hfz16_12 := blk_frozen BK176.out 12
      have hfz16_13 := blk_frozen BK176.out 13
      have hfz16_14 := blk_frozen BK176.out 14
      go_wp2
      go_meet
      case rel => exact ⟨_, (decide (a0_6 > 0)), (by first | rfl | (simp; done) | (simp [*]; done)), H', ⟨by first | omega | exact Nat.le_refl _⟩, ⟨by (with_reducible repeat (first | refine blk_drewN ?_ _ | refine blk_drew ?_ | refine blk_alloc ?_ _)); exact BK176.out⟩, ⟨by repeat (first | (with_reducible first | exact HB.out | apply below_alloc | apply pw_below_drewN | apply below_drew1 | refine below_set ?_ GE176.out) | exact HB.out)⟩⟩
     ·rw [if_neg c15] at H
      have c15b0 : decide (a0_7 < a0_8) = false := decide_eq_false c15
      clear c15
      (first | rw [c15b0] | (simp only [i64_w, i32_w]; rw [c15b0]) | skip)
      have H' := Aside0.mk H
      clear H
      have hcz17_0 : w13.cell? ⟨gb176, 0, none⟩ = some (.int .i64 a0_0) := (blk_cell BK176.out 0).trans rfl
      have hcz17_1 : w13.cell? ⟨gb176, 1, none⟩ = some (.int .i64 a0_1) := (blk_cell BK176.out 1).trans rfl
      have hcz17_2 : w13.cell? ⟨gb176, 2, none⟩ = some (.int .i64 a0_2) := (blk_cell BK176.out 2).trans rfl
      have hcz17_3 : w13.cell? ⟨gb176, 3, none⟩ = some (.int .i64 a0_3) := (blk_cell BK176.out 3).trans rfl
      have hcz17_4 : w13.cell? ⟨gb176, 4, none⟩ = some (.bool true) := (blk_cell BK176.out 4).trans rfl
      have hcz17_5 : w13.cell? ⟨gb176, 5, none⟩ = some (.int .i64 a0_5) := (blk_cell BK176.out 5).trans rfl
      have hcz17_6 : w13.cell? ⟨gb176, 6, none⟩ = some (.int .i64 a0_6) := (blk_cell BK176.out 6).trans rfl
      have hcz17_7 : w13.cell? ⟨gb176, 7, none⟩ = some (.int .i64 a0_7) := (blk_cell BK176.out 7).trans rfl
      have hcz17_8 : w13.cell? ⟨gb176, 8, none⟩ = some (.int .i64 a0_8) := (blk_cell BK176.out 8).trans rfl
      have hcz17_9 : w13.cell? ⟨gb176, 9, none⟩ = some (.bool a0_9) := (blk_cell BK176.out 9).trans rfl
      have hcz17_10 : w13.cell? ⟨gb176, 10, none⟩ = some (.int .i64 a0_10) := (blk_cell BK176.out 10).trans rfl
      have hcz17_11 : w13.cell? ⟨gb176, 11, none⟩ = some (.int .i64 a0_11) := (blk_cell BK176.out 11).trans rfl
      have hcz17_12 : w13.cell? ⟨gb176, 12, none⟩ = some (.int .i64 a0_12) := (blk_cell BK176.out 12).trans rfl
      have hcz17_13 : w13.cell? ⟨gb176, 13, none⟩ = some (.int .i64 a0_13) := (blk_cell BK176.out 13).trans rfl
      have hcz17_14 : w13.cell? ⟨gb176, 14, none⟩ = some (.int .i64 a0_14) := (blk_cell BK176.out 14).trans rfl
      have hfz17_0 := blk_frozen BK176.out 0
      have hfz17_1 := blk_frozen BK176.out 1
      have hfz17_2 := blk_frozen BK176.out 2
      have hfz17_3 := blk_frozen BK176.out 3
      have hfz17_4 := blk_frozen BK176.out 4
      have hfz17_5 := blk_frozen BK176.out 5
      have hfz17_6 := blk_frozen BK176.out 6
      have hfz17_7 := blk_frozen BK176.out 7
      have hfz17_8 := blk_frozen BK176.out 8
      have hfz17_9 := blk_frozen BK176.out 9
      have hfz17_10 := blk_frozen BK176.out 10
      have hfz17_11 := blk_frozen BK176.out 11
      have hfz17_12 := blk_frozen BK176.out 12
      have hfz17_13 := blk_frozen BK176.out 13
      have hfz17_14 := blk_frozen BK176.out 14
      go_wp2
      go_meet
      case rel => exact ⟨_, (false), (by first | rfl | (simp; done) | (simp [*]; done)), H', ⟨by first | omega | exact Nat.le_refl _⟩, ⟨by (with_reducible repeat (first | refine blk_drewN ?_ _ | refine blk_drew ?_ | refine blk_alloc ?_ _)); exact BK176.out⟩, ⟨by repeat (first | (with_reducible first | exact HB.out | apply below_alloc | apply pw_below_drewN | apply below_drew1 | refine below_set ?_ GE176.out) | exact HB.out)⟩⟩
    case rest =>
     clear HC10
     try clear c1
     try clear p2
     try clear c3
     try clear c3b0
     try clear c3b1
     try clear c4
     try clear c5
     try clear c5b0
     try clear c12
     try clear c14
     try clear c15
     try clear c15b0
     try clear hcz12_0
     try clear hcz12_1
     try clear hcz12_10
     try clear hcz12_11
     try clear hcz12_12
     try clear hcz12_13
     try clear hcz12_14
     try clear hcz12_2
     try clear hcz12_3
     try clear hcz12_4
     try clear hcz12_5
     try clear hcz12_6
     try clear hcz12_7
     try clear hcz12_8
     try clear hcz12_9
     try clear hcz14_0
     try clear hcz14_1
     try clear hcz14_10
     try clear hcz14_11
     try clear hcz14_12
     try clear hcz14_13
     try clear hcz14_14
     try clear hcz14_2
     try clear hcz14_3
     try clear hcz14_4
     try clear hcz14_5
     try clear hcz14_6
     try clear hcz14_7
     try clear hcz14_8
     try clear hcz14_9
     try clear hcz16_0
     try clear hcz16_1
     try clear hcz16_10
     try clear hcz16_11
     try clear hcz16_12
     try clear hcz16_13
     try clear hcz16_14
     try clear hcz16_2
     try clear hcz16_3
     try clear hcz16_4
     try clear hcz16_5
     try clear hcz16_6
     try clear hcz16_7
     try clear hcz16_8
     try clear hcz16_9
     try clear hcz17_0
     try clear hcz17_1
     try clear hcz17_10
     try clear hcz17_11
     try clear hcz17_12
     try clear hcz17_13
     try clear hcz17_14
     try clear hcz17_2
     try clear hcz17_3
     try clear hcz17_4
     try clear hcz17_5
     try clear hcz17_6
     try clear hcz17_7
     try clear hcz17_8
     try clear hcz17_9
     try clear hcz7_0
     try clear hcz7_1
     try clear hcz7_10
     try clear hcz7_11
     try clear hcz7_12
     try clear hcz7_13
     try clear hcz7_14
     try clear hcz7_2
     try clear hcz7_3
     try clear hcz7_4
     try clear hcz7_5
     try clear hcz7_6
     try clear hcz7_7
     try clear hcz7_8
     try clear hcz7_9
     try clear hcz9_0
     try clear hcz9_1
     try clear hcz9_10
     try clear hcz9_11
     try clear hcz9_12
     try clear hcz9_13
     try clear hcz9_14
     try clear hcz9_2
     try clear hcz9_3
     try clear hcz9_4
     try clear hcz9_5
     try clear hcz9_6
     try clear hcz9_7
     try clear hcz9_8
     try clear hcz9_9
     try clear hfz12_0
     try clear hfz12_1
     try clear hfz12_10
     try clear hfz12_11
     try clear hfz12_12
     try clear hfz12_13
     try clear hfz12_14
     try clear hfz12_2
     try clear hfz12_3
     try clear hfz12_4
     try clear hfz12_5
     try clear hfz12_6
     try clear hfz12_7
     try clear hfz12_8
     try clear hfz12_9
     try clear hfz14_0
     try clear hfz14_1
     try clear hfz14_10
     try clear hfz14_11
     try clear hfz14_12
     try clear hfz14_13
     try clear hfz14_14
     try clear hfz14_2
     try clear hfz14_3
     try clear hfz14_4
     try clear hfz14_5
     try clear hfz14_6
     try clear hfz14_7
     try clear hfz14_8
     try clear hfz14_9
     try clear hfz16_0
     try clear hfz16_1
     try clear hfz16_10
     try clear hfz16_11
     try clear hfz16_12
     try clear hfz16_13
     try clear hfz16_14
     try clear hfz16_2
     try clear hfz16_3
     try clear hfz16_4
     try clear hfz16_5
     try clear hfz16_6
     try clear hfz16_7
     try clear hfz16_8
     try clear hfz16_9
     try clear hfz17_0
     try clear hfz17_1
     try clear hfz17_10
     try clear hfz17_11
     try clear hfz17_12
     try clear hfz17_13
     try clear hfz17_14
     try clear hfz17_2
     try clear hfz17_3
     try clear hfz17_4
     try clear hfz17_5
     try clear hfz17_6
     try clear hfz17_7
     try clear hfz17_8
     try clear hfz17_9
     try clear hfz7_0
     try clear hfz7_1
     try clear hfz7_10
     try clear hfz7_11
     try clear hfz7_12
     try clear hfz7_13
     try clear hfz7_14
     try clear hfz7_2
     try clear hfz7_3
     try clear hfz7_4
     try clear hfz7_5
     try clear hfz7_6
     try clear hfz7_7
     try clear hfz7_8
     try clear hfz7_9
     try clear hfz9_0
     try clear hfz9_1
     try clear hfz9_10
     try clear hfz9_11
     try clear hfz9_12
     try clear hfz9_13
     try clear hfz9_14
     try clear hfz9_2
     try clear hfz9_3
     try clear hfz9_4
     try clear hfz9_5
     try clear hfz9_6
     try clear hfz9_7
     try clear hfz9_8
     try clear hfz9_9
     obtain ⟨kq, x19_9, rfl, HA, HJ9, BK176, HB⟩ := hcut
     cases kq with
     | zero => exact absurd HA.out (by simp [headgateref33_Background.j0])
     | succ kj9 =>
      have H := HA.out
      clear HA
      simp only [headgateref33_Background.j0] at H
      by_cases c18 : x19_9 = true
      ·subst c18
       have H1 : (some (2, 0)) = some (r1, r2) := by rw [if_pos rfl] at H; exact H
       clear H
       have H := H1
       clear H1
       simp only [Option.some.injEq, Prod.mk.injEq] at H
       obtain ⟨rfl, rfl⟩ := H
       go_wp2
       go_ret2
       exact ⟨by first | rfl | (simp [errW_none, errW_some] <;> rfl) | (simp [*, errW_none, errW_some] <;> rfl), by repeat (first | (with_reducible first | exact HB.out | apply below_alloc | apply pw_below_drewN | apply below_drew1 | refine below_set ?_ GE176.out) | exact HB.out)⟩
      ·replace c18 := Bool.eq_false_iff.mpr c18
       subst c18
       have H1 : (if a0_7 > 0 then (headgateref33_Background.j1 kj9 a0_9 a0_0 a0_1 a0_2 a0_3 true a0_5 a0_6 a0_7 a0_8 a0_9 a0_10 a0_11 a0_12 a0_13 a0_14) else (headgateref33_Background.j1 kj9 false a0_0 a0_1 a0_2 a0_3 true a0_5 a0_6 a0_7 a0_8 a0_9 a0_10 a0_11 a0_12 a0_13 a0_14)) = some (r1, r2) := by rw [if_neg (show ¬ (false = true) by decide)] at H; exact H
       clear H
       have H := H1
       clear H1
       have HC19 := Aside0.mk H
       clear H
       go_upto_region 10 with (fail)
       go_cut [30] (fun v30 wc => ∃ (kq : Nat) (x30_18 : Bool), v30 = .bool x30_18 ∧ Aside0 (headgateref33_Background.j1 kq x30_18 a0_0 a0_1 a0_2 a0_3 true a0_5 a0_6 a0_7 a0_8 a0_9 a0_10 a0_11 a0_12 a0_13 a0_14 = some (r1, r2)) ∧ Aside0 (kq ≤ kj9) ∧ Aside0 (wc.heap[gb176]? = some (.cells #[.int .i64 a0_0, .int .i64 a0_1, .int .i64 a0_2, .int .i64 a0_3, .bool true, .int .i64 a0_5, .int .i64 a0_6, .int .i64 a0_7, .int .i64 a0_8, .bool a0_9, .int .i64 a0_10, .int .i64 a0_11, .int .i64 a0_12, .int .i64 a0_13, .int .i64 a0_14] 23 (0, 0))) ∧ Aside0 (Below w.heap.size w wc))
       case first =>
        have H := HC19.out
        clear HC19
        by_cases c20 : a0_7 > 0
        ·rw [if_pos c20] at H
         have c20b0 : decide (0 < a0_7) = true := decide_eq_true c20
         clear c20
         (first | rw [c20b0] | (simp only [i64_w, i32_w]; rw [c20b0]) | skip)
         have H' := Aside0.mk H
         clear H
         have hcz21_0 : wc.cell? ⟨gb176, 0, none⟩ = some (.int .i64 a0_0) := (blk_cell BK176.out 0).trans rfl
         have hcz21_1 : wc.cell? ⟨gb176, 1, none⟩ = some (.int .i64 a0_1) := (blk_cell BK176.out 1).trans rfl
         have hcz21_2 : wc.cell? ⟨gb176, 2, none⟩ = some (.int .i64 a0_2) := (blk_cell BK176.out 2).trans rfl
         have hcz21_3 : wc.cell? ⟨gb176, 3, none⟩ = some (.int .i64 a0_3) := (blk_cell BK176.out 3).trans rfl
         have hcz21_4 : wc.cell? ⟨gb176, 4, none⟩ = some (.bool true) := (blk_cell BK176.out 4).trans rfl
         have hcz21_5 : wc.cell? ⟨gb176, 5, none⟩ = some (.int .i64 a0_5) := (blk_cell BK176.out 5).trans rfl
         have hcz21_6 : wc.cell? ⟨gb176, 6, none⟩ = some (.int .i64 a0_6) := (blk_cell BK176.out 6).trans rfl
         have hcz21_7 : wc.cell? ⟨gb176, 7, none⟩ = some (.int .i64 a0_7) := (blk_cell BK176.out 7).trans rfl
         have hcz21_8 : wc.cell? ⟨gb176, 8, none⟩ = some (.int .i64 a0_8) := (blk_cell BK176.out 8).trans rfl
         have hcz21_9 : wc.cell? ⟨gb176, 9, none⟩ = some (.bool a0_9) := (blk_cell BK176.out 9).trans rfl
         have hcz21_10 : wc.cell? ⟨gb176, 10, none⟩ = some (.int .i64 a0_10) := (blk_cell BK176.out 10).trans rfl
         have hcz21_11 : wc.cell? ⟨gb176, 11, none⟩ = some (.int .i64 a0_11) := (blk_cell BK176.out 11).trans rfl
         have hcz21_12 : wc.cell? ⟨gb176, 12, none⟩ = some (.int .i64 a0_12) := (blk_cell BK176.out 12).trans rfl
         have hcz21_13 : wc.cell? ⟨gb176, 13, none⟩ = some (.int .i64 a0_13) := (blk_cell BK176.out 13).trans rfl
         have hcz21_14 : wc.cell? ⟨gb176, 14, none⟩ = some (.int .i64 a0_14) := (blk_cell BK176.out 14).trans rfl
         have hfz21_0 := blk_frozen BK176.out 0
         have hfz21_1 := blk_frozen BK176.out 1
         have hfz21_2 := blk_frozen BK176.out 2
         have hfz21_3 := blk_frozen BK176.out 3
         have hfz21_4 := blk_frozen BK176.out 4
         have hfz21_5 := blk_frozen BK176.out 5
         have hfz21_6 := blk_frozen BK176.out 6
         have hfz21_7 := blk_frozen BK176.out 7
         have hfz21_8 := blk_frozen BK176.out 8
         have hfz21_9 := blk_frozen BK176.out 9
         have hfz21_10 := blk_frozen BK176.out 10
         have hfz21_11 := blk_frozen BK176.out 11
         have hfz21_12 := blk_frozen BK176.out 12
         have hfz21_13 := blk_frozen BK176.out 13
         have hfz21_14 := blk_frozen BK176.out 14
         go_wp2
         go_meet
         case rel => exact ⟨_, (a0_9), (by first | rfl | (simp; done) | (simp [*]; done)), H', ⟨by have := HJ9.out; first | omega | exact Nat.le_refl _⟩, ⟨by (with_reducible repeat (first | refine blk_drewN ?_ _ | refine blk_drew ?_ | refine blk_alloc ?_ _)); exact BK176.out⟩, ⟨by repeat (first | (with_reducible first | exact HB.out | apply below_alloc | apply pw_below_drewN | apply below_drew1 | refine below_set ?_ GE176.out) | exact HB.out)⟩⟩
        ·rw [if_neg c20] at H
         have c20b0 : decide (0 < a0_7) = false := decide_eq_false c20
         clear c20
         (first | rw [c20b0] | (simp only [i64_w, i32_w]; rw [c20b0]) | skip)
         have H' := Aside0.mk H
         clear H
         have hcz22_0 : wc.cell? ⟨gb176, 0, none⟩ = some (.int .i64 a0_0) := (blk_cell BK176.out 0).trans rfl
         have hcz22_1 : wc.cell? ⟨gb176, 1, none⟩ = some (.int .i64 a0_1) := (blk_cell BK176.out 1).trans rfl
         have hcz22_2 : wc.cell? ⟨gb176, 2, none⟩ = some (.int .i64 a0_2) := (blk_cell BK176.out 2).trans rfl
         have hcz22_3 : wc.cell? ⟨gb176, 3, none⟩ = some (.int .i64 a0_3) := (blk_cell BK176.out 3).trans rfl
         have hcz22_4 : wc.cell? ⟨gb176, 4, none⟩ = some (.bool true) := (blk_cell BK176.out 4).trans rfl
         have hcz22_5 : wc.cell? ⟨gb176, 5, none⟩ = some (.int .i64 a0_5) := (blk_cell BK176.out 5).trans rfl
         have hcz22_6 : wc.cell? ⟨gb176, 6, none⟩ = some (.int .i64 a0_6) := (blk_cell BK176.out 6).trans rfl
         have hcz22_7 : wc.cell? ⟨gb176, 7, none⟩ = some (.int .i64 a0_7) := (blk_cell BK176.out 7).trans rfl
         have hcz22_8 : wc.cell? ⟨gb176, 8, none⟩ = some (.int .i64 a0_8) := (blk_cell BK176.out 8).trans rfl
         have hcz22_9 : wc.cell? ⟨gb176, 9, none⟩ = some (.bool a0_9) := (blk_cell BK176.out 9).trans rfl
         have hcz22_10 : wc.cell? ⟨gb176, 10, none⟩ = some (.int .i64 a0_10) := (blk_cell BK176.out 10).trans rfl
         have hcz22_11 : wc.cell? ⟨gb176, 11, none⟩ = some (.int .i64 a0_11) := (blk_cell BK176.out 11).trans rfl
         have hcz22_12 : wc.cell? ⟨gb176, 12, none⟩ = some (.int .i64 a0_12) := (blk_cell BK176.out 12).trans rfl
         have hcz22_13 : wc.cell? ⟨gb176, 13, none⟩ = some (.int .i64 a0_13) := (blk_cell BK176.out 13).trans rfl
         have hcz22_14 : wc.cell? ⟨gb176, 14, none⟩ = some (.int .i64 a0_14) := (blk_cell BK176.out 14).trans rfl
         have hfz22_0 := blk_frozen BK176.out 0
         have hfz22_1 := blk_frozen BK176.out 1
         have hfz22_2 := blk_frozen BK176.out 2
         have hfz22_3 := blk_frozen BK176.out 3
         have hfz22_4 := blk_frozen BK176.out 4
         have hfz22_5 := blk_frozen BK176.out 5
         have hfz22_6 := blk_frozen BK176.out 6
         have hfz22_7 := blk_frozen BK176.out 7
         have hfz22_8 := blk_frozen BK176.out 8
         have hfz22_9 := blk_frozen BK176.out 9
         have hfz22_10 := blk_frozen BK176.out 10
         have hfz22_11 := blk_frozen BK176.out 11
         have hfz22_12 := blk_frozen BK176.out 12
         have hfz22_13 := blk_frozen BK176.out 13
         have hfz22_14 := blk_frozen BK176.out 14
         go_wp2
         go_meet
         case rel => exact ⟨_, (false), (by first | rfl | (simp; done) | (simp [*]; done)), H', ⟨by have := HJ9.out; first | omega | exact Nat.le_refl _⟩, ⟨by (with_reducible repeat (first | refine blk_drewN ?_ _ | refine blk_drew ?_ | refine blk_alloc ?_ _)); exact BK176.out⟩, ⟨by repeat (first | (with_reducible first | exact HB.out | apply below_alloc | apply pw_below_drewN | apply below_drew1 | refine below_set ?_ GE176.out) | exact HB.out)⟩⟩
       case rest =>
        clear HC19
        try clear c1
        try clear c2
        try clear p2
        try clear c3
        try clear c3b0
        try clear c3b1
        try clear c4
        try clear c5
        try clear c5b0
        try clear c12
        try clear c14
        try clear c15
        try clear c15b0
        try clear c18
        try clear c20
        try clear c20b0
        try clear hcz12_0
        try clear hcz12_1
        try clear hcz12_10
        try clear hcz12_11
        try clear hcz12_12
        try clear hcz12_13
        try clear hcz12_14
        try clear hcz12_2
        try clear hcz12_3
        try clear hcz12_4
        try clear hcz12_5
        try clear hcz12_6
        try clear hcz12_7
        try clear hcz12_8
        try clear hcz12_9
        try clear hcz14_0
        try clear hcz14_1
        try clear hcz14_10
        try clear hcz14_11
        try clear hcz14_12
        try clear hcz14_13
        try clear hcz14_14
        try clear hcz14_2
        try clear hcz14_3
        try clear hcz14_4
        try clear hcz14_5
        try clear hcz14_6
        try clear hcz14_7
        try clear hcz14_8
        try clear hcz14_9
        try clear hcz16_0
        try clear hcz16_1
        try clear hcz16_10
        try clear hcz16_11
        try clear hcz16_12
        try clear hcz16_13
        try clear hcz16_14
        try clear hcz16_2
        try clear hcz16_3
        try clear hcz16_4
        try clear hcz16_5
        try clear hcz16_6
        try clear hcz16_7
        try clear hcz16_8
        try clear hcz16_9
        try clear hcz17_0
        try clear hcz17_1
        try clear hcz17_10
        try clear hcz17_11
        try clear hcz17_12
        try clear hcz17_13
        try clear hcz17_14
        try clear hcz17_2
        try clear hcz17_3
        try clear hcz17_4
        try clear hcz17_5
        try clear hcz17_6
        try clear hcz17_7
        try clear hcz17_8
        try clear hcz17_9
        try clear hcz21_0
        try clear hcz21_1
        try clear hcz21_10
        try clear hcz21_11
        try clear hcz21_12
        try clear hcz21_13
        try clear hcz21_14
        try clear hcz21_2
        try clear hcz21_3
        try clear hcz21_4
        try clear hcz21_5
        try clear hcz21_6
        try clear hcz21_7
        try clear hcz21_8
        try clear hcz21_9
        try clear hcz22_0
        try clear hcz22_1
        try clear hcz22_10
        try clear hcz22_11
        try clear hcz22_12
        try clear hcz22_13
        try clear hcz22_14
        try clear hcz22_2
        try clear hcz22_3
        try clear hcz22_4
        try clear hcz22_5
        try clear hcz22_6
        try clear hcz22_7
        try clear hcz22_8
        try clear hcz22_9
        try clear hcz7_0
        try clear hcz7_1
        try clear hcz7_10
        try clear hcz7_11
        try clear hcz7_12
        try clear hcz7_13
        try clear hcz7_14
        try clear hcz7_2
        try clear hcz7_3
        try clear hcz7_4
        try clear hcz7_5
        try clear hcz7_6
        try clear hcz7_7
        try clear hcz7_8
        try clear hcz7_9
        try clear hcz9_0
        try clear hcz9_1
        try clear hcz9_10
        try clear hcz9_11
        try clear hcz9_12
        try clear hcz9_13
        try clear hcz9_14
        try clear hcz9_2
        try clear hcz9_3
        try clear hcz9_4
        try clear hcz9_5
        try clear hcz9_6
        try clear hcz9_7
        try clear hcz9_8
        try clear hcz9_9
        try clear hfz12_0
        try clear hfz12_1
        try clear hfz12_10
        try clear hfz12_11
        try clear hfz12_12
        try clear hfz12_13
        try clear hfz12_14
        try clear hfz12_2
        try clear hfz12_3
        try clear hfz12_4
        try clear hfz12_5
        try clear hfz12_6
        try clear hfz12_7
        try clear hfz12_8
        try clear hfz12_9
        try clear hfz14_0
        try clear hfz14_1
        try clear hfz14_10
        try clear hfz14_11
        try clear hfz14_12
        try clear hfz14_13
        try clear hfz14_14
        try clear hfz14_2
        try clear hfz14_3
        try clear hfz14_4
        try clear hfz14_5
        try clear hfz14_6
        try clear hfz14_7
        try clear hfz14_8
        try clear hfz14_9
        try clear hfz16_0
        try clear hfz16_1
        try clear hfz16_10
        try clear hfz16_11
        try clear hfz16_12
        try clear hfz16_13
        try clear hfz16_14
        try clear hfz16_2
        try clear hfz16_3
        try clear hfz16_4
        try clear hfz16_5
        try clear hfz16_6
        try clear hfz16_7
        try clear hfz16_8
        try clear hfz16_9
        try clear hfz17_0
        try clear hfz17_1
        try clear hfz17_10
        try clear hfz17_11
        try clear hfz17_12
        try clear hfz17_13
        try clear hfz17_14
        try clear hfz17_2
        try clear hfz17_3
        try clear hfz17_4
        try clear hfz17_5
        try clear hfz17_6
        try clear hfz17_7
        try clear hfz17_8
        try clear hfz17_9
        try clear hfz21_0
        try clear hfz21_1
        try clear hfz21_10
        try clear hfz21_11
        try clear hfz21_12
        try clear hfz21_13
        try clear hfz21_14
        try clear hfz21_2
        try clear hfz21_3
        try clear hfz21_4
        try clear hfz21_5
        try clear hfz21_6
        try clear hfz21_7
        try clear hfz21_8
        try clear hfz21_9
        try clear hfz22_0
        try clear hfz22_1
        try clear hfz22_10
        try clear hfz22_11
        try clear hfz22_12
        try clear hfz22_13
        try clear hfz22_14
        try clear hfz22_2
        try clear hfz22_3
        try clear hfz22_4
        try clear hfz22_5
        try clear hfz22_6
        try clear hfz22_7
        try clear hfz22_8
        try clear hfz22_9
        try clear hfz7_0
        try clear hfz7_1
        try clear hfz7_10
        try clear hfz7_11
        try clear hfz7_12
        try clear hfz7_13
        try clear hfz7_14
        try clear hfz7_2
        try clear hfz7_3
        try clear hfz7_4
        try clear hfz7_5
        try clear hfz7_6
        try clear hfz7_7
        try clear hfz7_8
        try clear hfz7_9
        try clear hfz9_0
        try clear hfz9_1
        try clear hfz9_10
        try clear hfz9_11
        try clear hfz9_12
        try clear hfz9_13
        try clear hfz9_14
        try clear hfz9_2
        try clear hfz9_3
        try clear hfz9_4
        try clear hfz9_5
        try clear hfz9_6
        try clear hfz9_7
        try clear hfz9_8
        try clear hfz9_9
        try clear p2
        obtain ⟨kq, x30_18, rfl, HA, HJ18, BK176, HB⟩ := hcut
        cases kq with
        | zero => exact absurd HA.out (by simp [headgateref33_Background.j1])
        | succ kj18 =>
         have H := HA.out
         clear HA
         simp only [headgateref33_Background.j1] at H
         by_cases c23 : x30_18 = true
         ·subst c23
          have H1 : (some (3, 0)) = some (r1, r2) := by rw [if_pos rfl] at H; exact H
          clear H
          have H := H1
          clear H1
          simp only [Option.some.injEq, Prod.mk.injEq] at H
          obtain ⟨rfl, rfl⟩ := H
          go_wp2
          go_ret2
          exact ⟨by first | rfl | (simp [errW_none, errW_some] <;> rfl) | (simp [*, errW_none, errW_some] <;> rfl), by repeat (first | (with_reducible first | exact HB.out | apply below_alloc | apply pw_below_drewN | apply below_drew1 | refine below_set ?_ GE176.out) | exact HB.out)⟩
         ·replace c23 := Bool.eq_false_iff.mpr c23
          subst c23
          have H1 : (if a0_7 > 0 then ((headgateref33_may.f kj18 a0_0 a0_1 a0_2 a0_3 true a0_5 a0_6 a0_7 a0_8 a0_9 a0_10 a0_11 a0_12 a0_13 a0_14).bind fun t178 => (if t178 = true then (some (4, 0)) else (some (0, 0)))) else (some (0, 0))) = some (r1, r2) := by rw [if_neg (show ¬ (false = true) by decide)] at H; exact H
          clear H
          have H := H1
          clear H1
          by_cases c24 : a0_7 > 0
          ·rw [if_pos c24] at H
           have c24b0 : decide (0 < a0_7) = true := decide_eq_true c24
           clear c24
           replace H := Option.bind_eq_some_iff.mp H
           obtain ⟨t178, A250, H⟩ := H
           replace H : (if t178 = true then (some (4, 0)) else (some (0, 0))) = some (r1, r2) := H
           have A25 := Aside0.mk A250
           clear A250
           by_cases c26 : t178 = true
           ·subst c26
            have H1 : (some (4, 0)) = some (r1, r2) := by rw [if_pos rfl] at H; exact H
            clear H
            have H := H1
            clear H1
            simp only [Option.some.injEq, Prod.mk.injEq] at H
            obtain ⟨rfl, rfl⟩ := H
            have hcz27_0 : wc.cell? ⟨gb176, 0, none⟩ = some (.int .i64 a0_0) := (blk_cell BK176.out 0).trans rfl
            have hcz27_1 : wc.cell? ⟨gb176, 1, none⟩ = some (.int .i64 a0_1) := (blk_cell BK176.out 1).trans rfl
            have hcz27_2 : wc.cell? ⟨gb176, 2, none⟩ = some (.int .i64 a0_2) := (blk_cell BK176.out 2).trans rfl
            have hcz27_3 : wc.cell? ⟨gb176, 3, none⟩ = some (.int .i64 a0_3) := (blk_cell BK176.out 3).trans rfl
            have hcz27_4 : wc.cell? ⟨gb176, 4, none⟩ = some (.bool true) := (blk_cell BK176.out 4).trans rfl
            have hcz27_5 : wc.cell? ⟨gb176, 5, none⟩ = some (.int .i64 a0_5) := (blk_cell BK176.out 5).trans rfl
            have hcz27_6 : wc.cell? ⟨gb176, 6, none⟩ = some (.int .i64 a0_6) := (blk_cell BK176.out 6).trans rfl
            have hcz27_7 : wc.cell? ⟨gb176, 7, none⟩ = some (.int .i64 a0_7) := (blk_cell BK176.out 7).trans rfl
            have hcz27_8 : wc.cell? ⟨gb176, 8, none⟩ = some (.int .i64 a0_8) := (blk_cell BK176.out 8).trans rfl
            have hcz27_9 : wc.cell? ⟨gb176, 9, none⟩ = some (.bool a0_9) := (blk_cell BK176.out 9).trans rfl
            have hcz27_10 : wc.cell? ⟨gb176, 10, none⟩ = some (.int .i64 a0_10) := (blk_cell BK176.out 10).trans rfl
            have hcz27_11 : wc.cell? ⟨gb176, 11, none⟩ = some (.int .i64 a0_11) := (blk_cell BK176.out 11).trans rfl
            have hcz27_12 : wc.cell? ⟨gb176, 12, none⟩ = some (.int .i64 a0_12) := (blk_cell BK176.out 12).trans rfl
            have hcz27_13 : wc.cell? ⟨gb176, 13, none⟩ = some (.int .i64 a0_13) := (blk_cell BK176.out 13).trans rfl
            have hcz27_14 : wc.cell? ⟨gb176, 14, none⟩ = some (.int .i64 a0_14) := (blk_cell BK176.out 14).trans rfl
            have hfz27_0 := blk_frozen BK176.out 0
            have hfz27_1 := blk_frozen BK176.out 1
            have hfz27_2 := blk_frozen BK176.out 2
            have hfz27_3 := blk_frozen BK176.out 3
            have hfz27_4 := blk_frozen BK176.out 4
            have hfz27_5 := blk_frozen BK176.out 5
            have hfz27_6 := blk_frozen BK176.out 6
            have hfz27_7 := blk_frozen BK176.out 7
            have hfz27_8 := blk_frozen BK176.out 8
            have hfz27_9 := blk_frozen BK176.out 9
            have hfz27_10 := blk_frozen BK176.out 10
            have hfz27_11 := blk_frozen BK176.out 11
            have hfz27_12 := blk_frozen BK176.out 12
            have hfz27_13 := blk_frozen BK176.out 13
            have hfz27_14 := blk_frozen BK176.out 14
            go_wp2_with (first | (go_at_call 40; (with_reducible refine (headgateref33_may.calls kj18 a0_0 a0_1 a0_2 a0_3 true a0_5 a0_6 a0_7 a0_8 a0_9 a0_10 a0_11 a0_12 a0_13 a0_14 true _ A25.out).mono ?_); rintro e w28 ⟨rfl, hb⟩; have n0_ := Aside0.mk (blk_below (g := gb176) (o := .cells #[.int .i64 a0_0, .int .i64 a0_1, .int .i64 a0_2, .int .i64 a0_3, .bool true, .int .i64 a0_5, .int .i64 a0_6, .int .i64 a0_7, .int .i64 a0_8, .bool a0_9, .int .i64 a0_10, .int .i64 a0_11, .int .i64 a0_12, .int .i64 a0_13, .int .i64 a0_14] 23 (0, 0)) (by (with_reducible repeat (first | refine blk_drewN ?_ _ | refine blk_drew ?_ | refine blk_alloc ?_ _)); exact BK176.out) hb); have n1_ := Aside0.mk (below_step (by repeat (first | (with_reducible first | exact HB.out | apply below_alloc | apply pw_below_drewN | apply below_drew1 | refine below_set ?_ GE176.out) | exact HB.out)) hb); clear BK176; clear HB; have BK176 := n0_; have HB := n1_; clear n0_ n1_; (try clear hb); (try clear hb2); (try clear hk); (try clear hi)))
            go_ret2
            exact ⟨by first | rfl | (simp [errW_none, errW_some] <;> rfl) | (simp [*, errW_none, errW_some] <;> rfl), by repeat (first | (with_reducible first | exact HB.out | apply below_alloc | apply pw_below_drewN | apply below_drew1 | refine below_set ?_ GE176.out) | exact HB.out)⟩
           ·replace c26 := Bool.eq_false_iff.mpr c26
            subst c26
            have H1 : (some (0, 0)) = some (r1, r2) := by rw [if_neg (show ¬ (false = true) by decide)] at H; exact H
            clear H
            have H := H1
            clear H1
            simp only [Option.some.injEq, Prod.mk.injEq] at H
            obtain ⟨rfl, rfl⟩ := H
            have hcz29_0 : wc.cell? ⟨gb176, 0, none⟩ = some (.int .i64 a0_0) := (blk_cell BK176.out 0).trans rfl
            have hcz29_1 : wc.cell? ⟨gb176, 1, none⟩ = some (.int .i64 a0_1) := (blk_cell BK176.out 1).trans rfl
            have hcz29_2 : wc.cell? ⟨gb176, 2, none⟩ = some (.int .i64 a0_2) := (blk_cell BK176.out 2).trans rfl
            have hcz29_3 : wc.cell? ⟨gb176, 3, none⟩ = some (.int .i64 a0_3) := (blk_cell BK176.out 3).trans rfl
            have hcz29_4 : wc.cell? ⟨gb176, 4, none⟩ = some (.bool true) := (blk_cell BK176.out 4).trans rfl
            have hcz29_5 : wc.cell? ⟨gb176, 5, none⟩ = some (.int .i64 a0_5) := (blk_cell BK176.out 5).trans rfl
            have hcz29_6 : wc.cell? ⟨gb176, 6, none⟩ = some (.int .i64 a0_6) := (blk_cell BK176.out 6).trans rfl
            have hcz29_7 : wc.cell? ⟨gb176, 7, none⟩ = some (.int .i64 a0_7) := (blk_cell BK176.out 7).trans rfl
            have hcz29_8 : wc.cell? ⟨gb176, 8, none⟩ = some (.int .i64 a0_8) := (blk_cell BK176.out 8).trans rfl
            have hcz29_9 : wc.cell? ⟨gb176, 9, none⟩ = some (.bool a0_9) := (blk_cell BK176.out 9).trans rfl
            have hcz29_10 : wc.cell? ⟨gb176, 10, none⟩ = some (.int .i64 a0_10) := (blk_cell BK176.out 10).trans rfl
            have hcz29_11 : wc.cell? ⟨gb176, 11, none⟩ = some (.int .i64 a0_11) := (blk_cell BK176.out 11).trans rfl
            have hcz29_12 : wc.cell? ⟨gb176, 12, none⟩ = some (.int .i64 a0_12) := (blk_cell BK176.out 12).trans rfl
            have hcz29_13 : wc.cell? ⟨gb176, 13, none⟩ = some (.int .i64 a0_13) := (blk_cell BK176.out 13).trans rfl
            have hcz29_14 : wc.cell? ⟨gb176, 14, none⟩ = some (.int .i64 a0_14) := (blk_cell BK176.out 14).trans rfl
            have hfz29_0 := blk_frozen BK176.out 0
            have hfz29_1 := blk_frozen BK176.out 1
            have hfz29_2 := blk_frozen BK176.out 2
            have hfz29_3 := blk_frozen BK176.out 3
            have hfz29_4 := blk_frozen BK176.out 4
            have hfz29_5 := blk_frozen BK176.out 5
            have hfz29_6 := blk_frozen BK176.out 6
            have hfz29_7 := blk_frozen BK176.out 7
            have hfz29_8 := blk_frozen BK176.out 8
            have hfz29_9 := blk_frozen BK176.out 9
            have hfz29_10 := blk_frozen BK176.out 10
            have hfz29_11 := blk_frozen BK176.out 11
            have hfz29_12 := blk_frozen BK176.out 12
            have hfz29_13 := blk_frozen BK176.out 13
            have hfz29_14 := blk_frozen BK176.out 14
            go_wp2_with (first | (go_at_call 40; (with_reducible refine (headgateref33_may.calls kj18 a0_0 a0_1 a0_2 a0_3 true a0_5 a0_6 a0_7 a0_8 a0_9 a0_10 a0_11 a0_12 a0_13 a0_14 false _ A25.out).mono ?_); rintro e w30 ⟨rfl, hb⟩; have n0_ := Aside0.mk (blk_below (g := gb176) (o := .cells #[.int .i64 a0_0, .int .i64 a0_1, .int .i64 a0_2, .int .i64 a0_3, .bool true, .int .i64 a0_5, .int .i64 a0_6, .int .i64 a0_7, .int .i64 a0_8, .bool a0_9, .int .i64 a0_10, .int .i64 a0_11, .int .i64 a0_12, .int .i64 a0_13, .int .i64 a0_14] 23 (0, 0)) (by (with_reducible repeat (first | refine blk_drewN ?_ _ | refine blk_drew ?_ | refine blk_alloc ?_ _)); exact BK176.out) hb); have n1_ := Aside0.mk (below_step (by repeat (first | (with_reducible first | exact HB.out | apply below_alloc | apply pw_below_drewN | apply below_drew1 | refine below_set ?_ GE176.out) | exact HB.out)) hb); clear BK176; clear HB; have BK176 := n0_; have HB := n1_; clear n0_ n1_; (try clear hb); (try clear hb2); (try clear hk); (try clear hi)))
            go_ret2
            exact ⟨by first | rfl | (simp [errW_none, errW_some] <;> rfl) | (simp [*, errW_none, errW_some] <;> rfl), by repeat (first | (with_reducible first | exact HB.out | apply below_alloc | apply pw_below_drewN | apply below_drew1 | refine below_set ?_ GE176.out) | exact HB.out)⟩
          ·rw [if_neg c24] at H
           have c24b0 : decide (0 < a0_7) = false := decide_eq_false c24
           clear c24
           simp only [Option.some.injEq, Prod.mk.injEq] at H
           obtain ⟨rfl, rfl⟩ := H
           have hcz31_0 : wc.cell? ⟨gb176, 0, none⟩ = some (.int .i64 a0_0) := (blk_cell BK176.out 0).trans rfl
           have hcz31_1 : wc.cell? ⟨gb176, 1, none⟩ = some (.int .i64 a0_1) := (blk_cell BK176.out 1).trans rfl
           have hcz31_2 : wc.cell? ⟨gb176, 2, none⟩ = some (.int .i64 a0_2) := (blk_cell BK176.out 2).trans rfl
           have hcz31_3 : wc.cell? ⟨gb176, 3, none⟩ = some (.int .i64 a0_3) := (blk_cell BK176.out 3).trans rfl
           have hcz31_4 : wc.cell? ⟨gb176, 4, none⟩ = some (.bool true) := (blk_cell BK176.out 4).trans rfl
           have hcz31_5 : wc.cell? ⟨gb176, 5, none⟩ = some (.int .i64 a0_5) := (blk_cell BK176.out 5).trans rfl
           have hcz31_6 : wc.cell? ⟨gb176, 6, none⟩ = some (.int .i64 a0_6) := (blk_cell BK176.out 6).trans rfl
           have hcz31_7 : wc.cell? ⟨gb176, 7, none⟩ = some (.int .i64 a0_7) := (blk_cell BK176.out 7).trans rfl
           have hcz31_8 : wc.cell? ⟨gb176, 8, none⟩ = some (.int .i64 a0_8) := (blk_cell BK176.out 8).trans rfl
           have hcz31_9 : wc.cell? ⟨gb176, 9, none⟩ = some (.bool a0_9) := (blk_cell BK176.out 9).trans rfl
           have hcz31_10 : wc.cell? ⟨gb176, 10, none⟩ = some (.int .i64 a0_10) := (blk_cell BK176.out 10).trans rfl
           have hcz31_11 : wc.cell? ⟨gb176, 11, none⟩ = some (.int .i64 a0_11) := (blk_cell BK176.out 11).trans rfl
           have hcz31_12 : wc.cell? ⟨gb176, 12, none⟩ = some (.int .i64 a0_12) := (blk_cell BK176.out 12).trans rfl
           have hcz31_13 : wc.cell? ⟨gb176, 13, none⟩ = some (.int .i64 a0_13) := (blk_cell BK176.out 13).trans rfl
           have hcz31_14 : wc.cell? ⟨gb176, 14, none⟩ = some (.int .i64 a0_14) := (blk_cell BK176.out 14).trans rfl
           have hfz31_0 := blk_frozen BK176.out 0
           have hfz31_1 := blk_frozen BK176.out 1
           have hfz31_2 := blk_frozen BK176.out 2
           have hfz31_3 := blk_frozen BK176.out 3
           have hfz31_4 := blk_frozen BK176.out 4
           have hfz31_5 := blk_frozen BK176.out 5
           have hfz31_6 := blk_frozen BK176.out 6
           have hfz31_7 := blk_frozen BK176.out 7
           have hfz31_8 := blk_frozen BK176.out 8
           have hfz31_9 := blk_frozen BK176.out 9
           have hfz31_10 := blk_frozen BK176.out 10
           have hfz31_11 := blk_frozen BK176.out 11
           have hfz31_12 := blk_frozen BK176.out 12
           have hfz31_13 := blk_frozen BK176.out 13
           have hfz31_14 := blk_frozen BK176.out 14
           go_wp2
           go_ret2
           exact ⟨by first | rfl | (simp [errW_none, errW_some] <;> rfl) | (simp [*, errW_none, errW_some] <;> rfl), by repeat (first | (with_reducible first | exact HB.out | apply below_alloc | apply pw_below_drewN | apply below_drew1 | refine below_set ?_ GE176.out) | exact HB.out)⟩
  ·replace c4 := Bool.eq_false_iff.mpr c4
   subst c4
   have H1 : (some (0, 0)) = some (r1, r2) := by rw [if_neg (show ¬ (false = true) by decide)] at H; exact H
   clear H
   have H := H1
   clear H1
   simp only [Option.some.injEq, Prod.mk.injEq] at H
   obtain ⟨rfl, rfl⟩ := H
   go_enter Try.func14, Try.ntmps14
   go_wp2_with (first | ((with_reducible refine gate_dst (N := 1) rfl ?_); refine box_event ?hg (N := 1) ?hd (cs := #[.int .i64 a0_0, .int .i64 a0_1, .int .i64 a0_2, .int .i64 a0_3, .bool false, .int .i64 a0_5, .int .i64 a0_6, .int .i64 a0_7, .int .i64 a0_8, .bool a0_9, .int .i64 a0_10, .int .i64 a0_11, .int .i64 a0_12, .int .i64 a0_13, .int .i64 a0_14]) (t := 23) ?hr ?_; (case hd => rfl); (case hg => rfl); (case hr => first | (go_simp; done) | (go_simp; rfl)); intro gb176 hg w32 hbox hb; have n0_ := Aside0.mk (below_step (by repeat (first | (with_reducible first | exact HB.out | apply below_alloc | apply pw_below_drewN | apply below_drew1) | exact HB.out)) hb); have n1_ := Aside0.mk (hbox); have n2_ := Aside0.mk ((by rw [hg]; exact (below_size (by repeat (first | (with_reducible first | exact HB.out | apply below_alloc | apply pw_below_drewN | apply below_drew1) | exact HB.out))) : w.heap.size ≤ gb176)); have n3_ := Aside0.mk ((by rw [hg]; exact (below_size (by repeat (first | (with_reducible first | exact HB.out | apply below_alloc | apply pw_below_drewN | apply below_drew1) | exact HB.out))) : w.heap.size ≤ gb176)); clear HB; have HB := n0_; have BK176 := n1_; have GW176 := n2_; have GE176 := n3_; clear n0_ n1_ n2_ n3_; clear hb hbox hg; have hcz33_0 : w32.cell? ⟨gb176, 0, none⟩ = some (.int .i64 a0_0) := (blk_cell BK176.out 0).trans rfl; have hcz33_1 : w32.cell? ⟨gb176, 1, none⟩ = some (.int .i64 a0_1) := (blk_cell BK176.out 1).trans rfl; have hcz33_2 : w32.cell? ⟨gb176, 2, none⟩ = some (.int .i64 a0_2) := (blk_cell BK176.out 2).trans rfl; have hcz33_3 : w32.cell? ⟨gb176, 3, none⟩ = some (.int .i64 a0_3) := (blk_cell BK176.out 3).trans rfl; have hcz33_4 : w32.cell? ⟨gb176, 4, none⟩ = some (.bool false) := (blk_cell BK176.out 4).trans rfl; have hcz33_5 : w32.cell? ⟨gb176, 5, none⟩ = some (.int .i64 a0_5) := (blk_cell BK176.out 5).trans rfl; have hcz33_6 : w32.cell? ⟨gb176, 6, none⟩ = some (.int .i64 a0_6) := (blk_cell BK176.out 6).trans rfl; have hcz33_7 : w32.cell? ⟨gb176, 7, none⟩ = some (.int .i64 a0_7) := (blk_cell BK176.out 7).trans rfl; have hcz33_8 : w32.cell? ⟨gb176, 8, none⟩ = some (.int .i64 a0_8) := (blk_cell BK176.out 8).trans rfl; have hcz33_9 : w32.cell? ⟨gb176, 9, none⟩ = some (.bool a0_9) := (blk_cell BK176.out 9).trans rfl; have hcz33_10 : w32.cell? ⟨gb176, 10, none⟩ = some (.int .i64 a0_10) := (blk_cell BK176.out 10).trans rfl; have hcz33_11 : w32.cell? ⟨gb176, 11, none⟩ = some (.int .i64 a0_11) := (blk_cell BK176.out 11).trans rfl; have hcz33_12 : w32.cell? ⟨gb176, 12, none⟩ = some (.int .i64 a0_12) := (blk_cell BK176.out 12).trans rfl; have hcz33_13 : w32.cell? ⟨gb176, 13, none⟩ = some (.int .i64 a0_13) := (blk_cell BK176.out 13).trans rfl; have hcz33_14 : w32.cell? ⟨gb176, 14, none⟩ = some (.int .i64 a0_14) := (blk_cell BK176.out 14).trans rfl; have hfz33_0 := blk_frozen BK176.out 0; have hfz33_1 := blk_frozen BK176.out 1; have hfz33_2 := blk_frozen BK176.out 2; have hfz33_3 := blk_frozen BK176.out 3; have hfz33_4 := blk_frozen BK176.out 4; have hfz33_5 := blk_frozen BK176.out 5; have hfz33_6 := blk_frozen BK176.out 6; have hfz33_7 := blk_frozen BK176.out 7; have hfz33_8 := blk_frozen BK176.out 8; have hfz33_9 := blk_frozen BK176.out 9; have hfz33_10 := blk_frozen BK176.out 10; have hfz33_11 := blk_frozen BK176.out 11; have hfz33_12 := blk_frozen BK176.out 12; have hfz33_13 := blk_frozen BK176.out 13; have hfz33_14 := blk_frozen BK176.out 14) | ((with_reducible refine gate_callee (f := 12) rfl ?_); refine goesL_ (some 6) rfl rfl Try.func12 (by kernel_rfl) rfl #[.agg #[.int .i64 a0_0, .int .i64 a0_1, .int .i64 a0_2, .int .i64 a0_3, .bool false, .int .i64 a0_5, .int .i64 a0_6, .int .i64 a0_7, .int .i64 a0_8, .bool a0_9, .int .i64 a0_10, .int .i64 a0_11, .int .i64 a0_12, .int .i64 a0_13, .int .i64 a0_14]] rfl (by (try simp only [List.map_toArray, List.map_cons, List.map_nil]); first | done | rfl | (simp only [List.length_drop, List.length_take]; rfl)) ?_; (with_reducible refine (headgateref33_Check.calls k a0_0 a0_1 a0_2 a0_3 false a0_5 a0_6 a0_7 a0_8 a0_9 a0_10 a0_11 a0_12 a0_13 a0_14 t177 _ A2.out).mono ?_); rintro e w34 ⟨rfl, hb⟩; refine ⟨_, rfl, ?_⟩; have n0_ := Aside0.mk (blk_below (g := gb176) (o := .cells #[.int .i64 a0_0, .int .i64 a0_1, .int .i64 a0_2, .int .i64 a0_3, .bool false, .int .i64 a0_5, .int .i64 a0_6, .int .i64 a0_7, .int .i64 a0_8, .bool a0_9, .int .i64 a0_10, .int .i64 a0_11, .int .i64 a0_12, .int .i64 a0_13, .int .i64 a0_14] 23 (0, 0)) (by (with_reducible repeat (first | refine blk_drewN ?_ _ | refine blk_drew ?_ | refine blk_alloc ?_ _)); exact BK176.out) hb); have n1_ := Aside0.mk (below_step (by repeat (first | (with_reducible first | exact HB.out | apply below_alloc | apply pw_below_drewN | apply below_drew1 | refine below_set ?_ GE176.out) | exact HB.out)) hb); clear BK176; clear HB; have BK176 := n0_; have HB := n1_; clear n0_ n1_; (try clear hb); (try clear hb2); (try clear hk); (try clear hi); have hcz35_0 : w34.cell? ⟨gb176, 0, none⟩ = some (.int .i64 a0_0) := (blk_cell BK176.out 0).trans rfl; have hcz35_1 : w34.cell? ⟨gb176, 1, none⟩ = some (.int .i64 a0_1) := (blk_cell BK176.out 1).trans rfl; have hcz35_2 : w34.cell? ⟨gb176, 2, none⟩ = some (.int .i64 a0_2) := (blk_cell BK176.out 2).trans rfl; have hcz35_3 : w34.cell? ⟨gb176, 3, none⟩ = some (.int .i64 a0_3) := (blk_cell BK176.out 3).trans rfl; have hcz35_4 : w34.cell? ⟨gb176, 4, none⟩ = some (.bool false) := (blk_cell BK176.out 4).trans rfl; have hcz35_5 : w34.cell? ⟨gb176, 5, none⟩ = some (.int .i64 a0_5) := (blk_cell BK176.out 5).trans rfl; have hcz35_6 : w34.cell? ⟨gb176, 6, none⟩ = some (.int .i64 a0_6) := (blk_cell BK176.out 6).trans rfl; have hcz35_7 : w34.cell? ⟨gb176, 7, none⟩ = some (.int .i64 a0_7) := (blk_cell BK176.out 7).trans rfl; have hcz35_8 : w34.cell? ⟨gb176, 8, none⟩ = some (.int .i64 a0_8) := (blk_cell BK176.out 8).trans rfl; have hcz35_9 : w34.cell? ⟨gb176, 9, none⟩ = some (.bool a0_9) := (blk_cell BK176.out 9).trans rfl; have hcz35_10 : w34.cell? ⟨gb176, 10, none⟩ = some (.int .i64 a0_10) := (blk_cell BK176.out 10).trans rfl; have hcz35_11 : w34.cell? ⟨gb176, 11, none⟩ = some (.int .i64 a0_11) := (blk_cell BK176.out 11).trans rfl; have hcz35_12 : w34.cell? ⟨gb176, 12, none⟩ = some (.int .i64 a0_12) := (blk_cell BK176.out 12).trans rfl; have hcz35_13 : w34.cell? ⟨gb176, 13, none⟩ = some (.int .i64 a0_13) := (blk_cell BK176.out 13).trans rfl; have hcz35_14 : w34.cell? ⟨gb176, 14, none⟩ = some (.int .i64 a0_14) := (blk_cell BK176.out 14).trans rfl; have hfz35_0 := blk_frozen BK176.out 0; have hfz35_1 := blk_frozen BK176.out 1; have hfz35_2 := blk_frozen BK176.out 2; have hfz35_3 := blk_frozen BK176.out 3; have hfz35_4 := blk_frozen BK176.out 4; have hfz35_5 := blk_frozen BK176.out 5; have hfz35_6 := blk_frozen BK176.out 6; have hfz35_7 := blk_frozen BK176.out 7; have hfz35_8 := blk_frozen BK176.out 8; have hfz35_9 := blk_frozen BK176.out 9; have hfz35_10 := blk_frozen BK176.out 10; have hfz35_11 := blk_frozen BK176.out 11; have hfz35_12 := blk_frozen BK176.out 12; have hfz35_13 := blk_frozen BK176.out 13; have hfz35_14 := blk_frozen BK176.out 14))
   go_ret2
   exact ⟨by first | rfl | (simp [errW_none, errW_some] <;> rfl) | (simp [*, errW_none, errW_some] <;> rfl), by repeat (first | (with_reducible first | exact HB.out | apply below_alloc | apply pw_below_drewN | apply below_drew1 | refine below_set ?_ GE176.out) | exact HB.out)⟩
 ·rw [if_neg c3] at H
  have c3b0 : (t177 == 0) = false := beq_eq_false_iff_ne.mpr c3
  have c3b1 : (t177 != 0) = true := bne_iff_ne.mpr c3
  simp only [Option.some.injEq, Prod.mk.injEq] at H
  obtain ⟨rfl, rfl⟩ := H
  go_enter Try.func14, Try.ntmps14
  go_wp2_with (first | ((with_reducible refine gate_dst (N := 1) rfl ?_); refine box_event ?hg (N := 1) ?hd (cs := #[.int .i64 a0_0, .int .i64 a0_1, .int .i64 a0_2, .int .i64 a0_3, .bool a0_4, .int .i64 a0_5, .int .i64 a0_6, .int .i64 a0_7, .int .i64 a0_8, .bool a0_9, .int .i64 a0_10, .int .i64 a0_11, .int .i64 a0_12, .int .i64 a0_13, .int .i64 a0_14]) (t := 23) ?hr ?_; (case hd => rfl); (case hg => rfl); (case hr => first | (go_simp; done) | (go_simp; rfl)); intro gb176 hg w36 hbox hb; have n0_ := Aside0.mk (below_step (by repeat (first | (with_reducible first | exact HB.out | apply below_alloc | apply pw_below_drewN | apply below_drew1) | exact HB.out)) hb); have n1_ := Aside0.mk (hbox); have n2_ := Aside0.mk ((by rw [hg]; exact (below_size (by repeat (first | (with_reducible first | exact HB.out | apply below_alloc | apply pw_below_drewN | apply below_drew1) | exact HB.out))) : w.heap.size ≤ gb176)); have n3_ := Aside0.mk ((by rw [hg]; exact (below_size (by repeat (first | (with_reducible first | exact HB.out | apply below_alloc | apply pw_below_drewN | apply below_drew1) | exact HB.out))) : w.heap.size ≤ gb176)); clear HB; have HB := n0_; have BK176 := n1_; have GW176 := n2_; have GE176 := n3_; clear n0_ n1_ n2_ n3_; clear hb hbox hg; have hcz37_0 : w36.cell? ⟨gb176, 0, none⟩ = some (.int .i64 a0_0) := (blk_cell BK176.out 0).trans rfl; have hcz37_1 : w36.cell? ⟨gb176, 1, none⟩ = some (.int .i64 a0_1) := (blk_cell BK176.out 1).trans rfl; have hcz37_2 : w36.cell? ⟨gb176, 2, none⟩ = some (.int .i64 a0_2) := (blk_cell BK176.out 2).trans rfl; have hcz37_3 : w36.cell? ⟨gb176, 3, none⟩ = some (.int .i64 a0_3) := (blk_cell BK176.out 3).trans rfl; have hcz37_4 : w36.cell? ⟨gb176, 4, none⟩ = some (.bool a0_4) := (blk_cell BK176.out 4).trans rfl; have hcz37_5 : w36.cell? ⟨gb176, 5, none⟩ = some (.int .i64 a0_5) := (blk_cell BK176.out 5).trans rfl; have hcz37_6 : w36.cell? ⟨gb176, 6, none⟩ = some (.int .i64 a0_6) := (blk_cell BK176.out 6).trans rfl; have hcz37_7 : w36.cell? ⟨gb176, 7, none⟩ = some (.int .i64 a0_7) := (blk_cell BK176.out 7).trans rfl; have hcz37_8 : w36.cell? ⟨gb176, 8, none⟩ = some (.int .i64 a0_8) := (blk_cell BK176.out 8).trans rfl; have hcz37_9 : w36.cell? ⟨gb176, 9, none⟩ = some (.bool a0_9) := (blk_cell BK176.out 9).trans rfl; have hcz37_10 : w36.cell? ⟨gb176, 10, none⟩ = some (.int .i64 a0_10) := (blk_cell BK176.out 10).trans rfl; have hcz37_11 : w36.cell? ⟨gb176, 11, none⟩ = some (.int .i64 a0_11) := (blk_cell BK176.out 11).trans rfl; have hcz37_12 : w36.cell? ⟨gb176, 12, none⟩ = some (.int .i64 a0_12) := (blk_cell BK176.out 12).trans rfl; have hcz37_13 : w36.cell? ⟨gb176, 13, none⟩ = some (.int .i64 a0_13) := (blk_cell BK176.out 13).trans rfl; have hcz37_14 : w36.cell? ⟨gb176, 14, none⟩ = some (.int .i64 a0_14) := (blk_cell BK176.out 14).trans rfl; have hfz37_0 := blk_frozen BK176.out 0; have hfz37_1 := blk_frozen BK176.out 1; have hfz37_2 := blk_frozen BK176.out 2; have hfz37_3 := blk_frozen BK176.out 3; have hfz37_4 := blk_frozen BK176.out 4; have hfz37_5 := blk_frozen BK176.out 5; have hfz37_6 := blk_frozen BK176.out 6; have hfz37_7 := blk_frozen BK176.out 7; have hfz37_8 := blk_frozen BK176.out 8; have hfz37_9 := blk_frozen BK176.out 9; have hfz37_10 := blk_frozen BK176.out 10; have hfz37_11 := blk_frozen BK176.out 11; have hfz37_12 := blk_frozen BK176.out 12; have hfz37_13 := blk_frozen BK176.out 13; have hfz37_14 := blk_frozen BK176.out 14) | ((with_reducible refine gate_callee (f := 12) rfl ?_); refine goesL_ (some 6) rfl rfl Try.func12 (by kernel_rfl) rfl #[.agg #[.int .i64 a0_0, .int .i64 a0_1, .int .i64 a0_2, .int .i64 a0_3, .bool a0_4, .int .i64 a0_5, .int .i64 a0_6, .int .i64 a0_7, .int .i64 a0_8, .bool a0_9, .int .i64 a0_10, .int .i64 a0_11, .int .i64 a0_12, .int .i64 a0_13, .int .i64 a0_14]] rfl (by (try simp only [List.map_toArray, List.map_cons, List.map_nil]); first | done | rfl | (simp only [List.length_drop, List.length_take]; rfl)) ?_; (with_reducible refine (headgateref33_Check.calls k a0_0 a0_1 a0_2 a0_3 a0_4 a0_5 a0_6 a0_7 a0_8 a0_9 a0_10 a0_11 a0_12 a0_13 a0_14 t177 _ A2.out).mono ?_); rintro e w38 ⟨rfl, hb⟩; refine ⟨_, rfl, ?_⟩; have n0_ := Aside0.mk (blk_below (g := gb176) (o := .cells #[.int .i64 a0_0, .int .i64 a0_1, .int .i64 a0_2, .int .i64 a0_3, .bool a0_4, .int .i64 a0_5, .int .i64 a0_6, .int .i64 a0_7, .int .i64 a0_8, .bool a0_9, .int .i64 a0_10, .int .i64 a0_11, .int .i64 a0_12, .int .i64 a0_13, .int .i64 a0_14] 23 (0, 0)) (by (with_reducible repeat (first | refine blk_drewN ?_ _ | refine blk_drew ?_ | refine blk_alloc ?_ _)); exact BK176.out) hb); have n1_ := Aside0.mk (below_step (by repeat (first | (with_reducible first | exact HB.out | apply below_alloc | apply pw_below_drewN | apply below_drew1 | refine below_set ?_ GE176.out) | exact HB.out)) hb); clear BK176; clear HB; have BK176 := n0_; have HB := n1_; clear n0_ n1_; (try clear hb); (try clear hb2); (try clear hk); (try clear hi)))
  go_ret2
  exact ⟨by first | rfl | (simp [errW_none, errW_some] <;> rfl) | (simp [*, errW_none, errW_some] <;> rfl), by repeat (first | (with_reducible first | exact HB.out | apply below_alloc | apply pw_below_drewN | apply below_drew1 | refine below_set ?_ GE176.out) | exact HB.out)⟩

end Go.Proofs.Ytikejheoakhojaa.PA
