import Derived.Test.YtaklhokabnjjcaaDoorO
namespace Go.Proofs.YtaklhokabnjjcaaDoor
open Go.RowKit
set_option linter.unusedVariables false
set_option linter.unusedSimpArgs false

theorem check_b (s r c : Int) (w : World) :
    Calls Tryd.prog 20 #[.agg #[.int .i64 s, .int .i64 r, .int .i64 c]] w fun e w' => e = .returned (.int .i64 (chk s r c)) ∧ Below w.heap.size w w' :=
  (check_any s r c w).mono fun e w' h => ⟨h.1, by rw [h.2]; exact (Below.refl _ _).alloc (Nat.le_refl _) _⟩
theorem rcheck_b (s r c : Int) (w : World) :
    Calls Tryd.prog 21 #[.agg #[.int .i64 s, .int .i64 r, .int .i64 c]] w fun e w' => e = .returned (.int .i64 (chk s r c)) ∧ Below w.heap.size w w' :=
  (rcheck_any s r c w).mono fun e w' h => ⟨h.1, by rw [h.2]; exact (Below.refl _ _).alloc (Nat.le_refl _) _⟩
theorem B3.flat {w : World} {N : Nat} {x y z : Int} (h : B3 w N x y z) : w.cell? ⟨N, 0, none⟩ = some (.int .i64 x) ∧ w.cell? ⟨N, 1, none⟩ = some (.int .i64 y) ∧ w.cell? ⟨N, 2, none⟩ = some (.int .i64 z) := ⟨h.1, h.2.1, h.2.2.1⟩
theorem rdb {w w1 : World} {A : Option Addr} {xs : List Int} (hb : Below w.heap.size w w1) (h : RdI w A xs) : RdI w1 A xs := h.below hb
theorem btk {w w1 w2 : World} (k : Below w1.heap.size w1 w2) (h : Below w.heap.size w w1) : Below w.heap.size w w2 := bt h k
theorem alF_len (s r c : Int) : (alF s r c).length ≤ 6 := by
  unfold alF
  split
  · exact alTo_len s r 6
  · simp

set_option maxHeartbeats 2000000 in
theorem events_walk (s : Int) (ws : (Lit.int .i64 s).wf = true) (r : Int) (wr : (Lit.int .i64 r).wf = true) (c : Int) (wc : (Lit.int .i64 c).wf = true) (k : Int) (wk : (Lit.int .i64 k).wf = true) (p : Int) (wp : (Lit.int .i64 p).wf = true) (w : World) (hG : GC w) :
    Calls Tryd.prog 5 #[.agg #[.int .i64 s, .int .i64 r, .int .i64 c], .agg #[.int .i64 k, .int .i64 p]] w fun e w' => e = .returned (.bool true) ∧ Below w.heap.size w w' := by
  have HG := hid hG
  clear hG
  have hb := ((Below.refl w.heap.size w).alloc (Nat.le_refl _) (.cells #[.int .i64 s, .int .i64 r, .int .i64 c] 23)).alloc (by simp) (.cells #[.int .i64 k, .int .i64 p] 37)
  have HB := hid ((B3.new w s r c 23).alloc (.cells #[.int .i64 k, .int .i64 p] 37))
  go_enter Tryd.func5, Tryd.ntmps5
  go_wp2_with fail
  refine (next_any _ _ _ _ _ _).mono ?_
  rintro e w1 ⟨rfl, hc⟩
  have k0 : w1.cell? ⟨w.heap.size + 1, 0, none⟩ = some (.int .i64 k) := kc hc (by simp [go_sem])
  have k1 : w1.cell? ⟨w.heap.size + 1, 1, none⟩ = some (.int .i64 p) := kc hc (by simp [go_sem])
  have HB1 := hid (HB.out.below hc)
  have hb1 := hb.trans (hc.mono hb.size)
  clear hc HB hb
  have hX := B3.new w1 (nS s r c k p) (nR s r c k p) (nC s r c k p) 23
  have hb2 := hb1.alloc hb1.size (.cells #[.int .i64 (nS s r c k p), .int .i64 (nR s r c k p), .int .i64 (nC s r c k p)] 23)
  have HB2 := hid (HB1.out.alloc (.cells #[.int .i64 (nS s r c k p), .int .i64 (nR s r c k p), .int .i64 (nC s r c k p)] 23))
  obtain ⟨c0, c1, c2, f0, f1, f2⟩ := HB2.out
  clear HB1 hb1
  have d0 := ka k0
  have d1 := ka k1
  go_wp2_with fail
  refine (rnext_any _ _ _ _ _ _).mono ?_
  rintro e w2 ⟨rfl, hc⟩
  have hY := B3.new w2 (nS s r c k p) (nR s r c k p) (nC s r c k p) 23
  have hX3 := (hX.below hc).alloc (.cells #[.int .i64 (nS s r c k p), .int .i64 (nR s r c k p), .int .i64 (nC s r c k p)] 23)
  have HB3 := hid ((HB2.out.below hc).alloc (.cells #[.int .i64 (nS s r c k p), .int .i64 (nR s r c k p), .int .i64 (nC s r c k p)] 23))
  have hb3 := (hb2.trans (hc.mono hb2.size))
  have hb4 := hb3.alloc hb3.size (.cells #[.int .i64 (nS s r c k p), .int .i64 (nR s r c k p), .int .i64 (nC s r c k p)] 23)
  clear hc HB2 hb2 hb3 hX d0 d1 k0 k1 c0 c1 c2 f0 f1 f2
  obtain ⟨c0, c1, c2, f0, f1, f2⟩ := HB3.out
  go_wp2_with fail
  refine (allowed_any _ _ _ _).mono ?_
  rintro e w3 ⟨⟨A, ca, rfl, hA⟩, hc⟩
  have hX4 := hX3.below hc
  have hY4 := hY.below hc
  have HB4 := hid (HB3.out.below hc)
  have hb5 := (hb4.trans (hc.mono hb4.size))
  clear hc HB3 hb4 hX3 hY c0 c1 c2 f0 f1 f2
  obtain ⟨c0, c1, c2, f0, f1, f2⟩ := HB4.out
  go_wp2_with fail
  refine (rallowed_any _ _ _ _).mono ?_
  rintro e w4 ⟨⟨B, cb, rfl, hB⟩, hc⟩
  have hA5 := hA.below hc
  have hX5 := hX4.below hc
  have hY5 := hY4.below hc
  have hB5 := HB4.out.below hc
  have hb6 := (hb5.trans (hc.mono hb5.size))
  have hG6 := HG.out.below hb6
  clear hc HB4 hb5 hX4 hY4 hA c0 c1 c2 f0 f1 f2 HG
  generalize hN1 : w1.heap.size = N1 at *
  generalize hN2 : w2.heap.size = N2 at *
  clear hN1 hN2
  obtain ⟨c0, c1, c2⟩ := hB5.flat
  obtain ⟨x0, x1, x2⟩ := hX5.flat
  obtain ⟨y0, y1, y2⟩ := hY5.flat
  clear hX5 hY5 hB5
  obtain ⟨g0, g1⟩ := hG6
  have hl := alF_len s r c
  have hl2 : (alF s r c).length ≤ 9223372036854775807 := by omega
  go_wp2_with fail
  go_region_held3 (fun w' => w'.cell? ⟨w.heap.size, 0, none⟩ = some (.int .i64 s) ∧ w'.cell? ⟨w.heap.size, 1, none⟩ = some (.int .i64 r) ∧ w'.cell? ⟨w.heap.size, 2, none⟩ = some (.int .i64 c) ∧
      w'.cell? ⟨N1, 0, none⟩ = some (.int .i64 (nS s r c k p)) ∧ w'.cell? ⟨N1, 1, none⟩ = some (.int .i64 (nR s r c k p)) ∧ w'.cell? ⟨N1, 2, none⟩ = some (.int .i64 (nC s r c k p)) ∧
      w'.cell? ⟨N2, 0, none⟩ = some (.int .i64 (nS s r c k p)) ∧ w'.cell? ⟨N2, 1, none⟩ = some (.int .i64 (nR s r c k p)) ∧ w'.cell? ⟨N2, 2, none⟩ = some (.int .i64 (nC s r c k p)) ∧ RdI w' A (alF s r c) ∧ RdI w' B (alF s r c) ∧ w'.cell? ⟨0, 0, none⟩ = some (.int .i64 4) ∧ w'.cell? ⟨0, 1, none⟩ = some (.int .i64 3))
    (first | ((try go_split_ands); (repeat' apply And.intro) <;> first | assumption | (apply kc; assumption; assumption) | (refine RdI.drew ?_; assumption) | (apply rdb; assumption; assumption)))
    (first | (go_at_call 20; refine (check_b _ _ _ _).mono ?_; rintro e w5 ⟨rfl, hb7⟩) | (go_at_call 21; refine (rcheck_b _ _ _ _).mono ?_; rintro e w5 ⟨rfl, hb7⟩) | (go_at_call 22; go_split_ands; refine (same_any _ _ _ _ _ _ hl2 hl2 _ (by assumption) (by assumption)).mono ?_; rintro e w5 ⟨rfl, hb7⟩) | (go_at_call 9; go_split_ands; refine (awake_any _ ⟨by assumption, by assumption⟩).mono ?_; rintro e w5 ⟨rfl, hb7⟩))
  all_goals
    go_wp2_with fail
    go_ret
    refine ⟨rfl, ?_⟩
    repeat (first | exact hb6.drew | (apply btk; assumption))
end Go.Proofs.YtaklhokabnjjcaaDoor
