import Derived.Test.YtaklhokabnjjcaaDoorI
import Derived.Test.YtaklhokabnjjcaaDoorM
namespace Go.Proofs.YtaklhokabnjjcaaDoor
open Go.RowKit
set_option linter.unusedVariables false
set_option linter.unusedSimpArgs false

theorem run_any10 (s r c : Int) (A : Option Addr) (cap : Nat) (evs : List (Int × Int)) (hl : evs.length ≤ 9223372036854775807) (w : World) (hR : RdP w A evs) :
    Calls Tryd.prog 10 #[.agg #[.int .i64 s, .int .i64 r, .int .i64 c], .slice A evs.length cap] w fun e w' =>
      e = .returned (.tuple #[.agg #[.int .i64 (runV s r c evs).1.1, .int .i64 (runV s r c evs).1.2.1, .int .i64 (runV s r c evs).1.2.2], .int .i64 (runV s r c evs).2.1, .int .i64 (runV s r c evs).2.2]) ∧ Below w.heap.size w w' := by
  by_cases h : chk s r c = 0
  · exact run_ok s r c A cap evs h hl w hR
  · exact run_bad s r c A cap evs h w

theorem run_any11 (s r c : Int) (A : Option Addr) (cap : Nat) (evs : List (Int × Int)) (hl : evs.length ≤ 9223372036854775807) (w : World) (hR : RdP w A evs) :
    Calls Tryd.prog 11 #[.agg #[.int .i64 s, .int .i64 r, .int .i64 c], .slice A evs.length cap] w fun e w' =>
      e = .returned (.tuple #[.agg #[.int .i64 (runV s r c evs).1.1, .int .i64 (runV s r c evs).1.2.1, .int .i64 (runV s r c evs).1.2.2], .int .i64 (runV s r c evs).2.1, .int .i64 (runV s r c evs).2.2]) ∧ Below w.heap.size w w' := by
  by_cases h : chk s r c = 0
  · exact rrun_ok s r c A cap evs h hl w hR
  · exact rrun_bad s r c A cap evs h w

set_option maxHeartbeats 1000000 in
theorem runs_walk (s : Int) (ws : (Lit.int .i64 s).wf = true) (r : Int) (wr : (Lit.int .i64 r).wf = true) (c : Int) (wc : (Lit.int .i64 c).wf = true) (A : Option Addr) (cap : Nat) (evs : List (Int × Int)) (_wf : ∀ e ∈ evs, (Lit.int .i64 e.1).wf = true ∧ (Lit.int .i64 e.2).wf = true) (n : Int) (wn : (Lit.int .i64 n).wf = true) (w : World) (hR : RdP w A evs) (hG : GC w) :
    Calls Tryd.prog 3 #[.agg #[.int .i64 s, .int .i64 r, .int .i64 c], .slice A evs.length cap, .int .i64 n] w fun e w' => e = .returned (.bool true) ∧ Below w.heap.size w w' := by
  have HG := hid hG
  clear hG
  have HB := hid (B3.new w s r c 23)
  have hb := (Below.refl w.heap.size w).alloc (Nat.le_refl _) (.cells #[.int .i64 s, .int .i64 r, .int .i64 c] 23)
  by_cases hl : 40 < evs.length
  · go_enter Tryd.func3, Tryd.ntmps3
    go_wp2_with fail
    refine (awake_any _ (HG.out.below hb)).mono ?_
    rintro e w5 ⟨rfl, hc⟩
    go_wp2_with fail
    go_ret
    exact ⟨rfl, hb.trans (hc.mono hb.size)⟩
  have hl' : evs.length ≤ 9223372036854775807 := by omega
  have hRV := hR.below hb
  obtain ⟨x1, x2, x3, x4, x5, hx⟩ : ∃ x1 x2 x3 x4 x5 : Int, runV s r c evs = ((x1, x2, x3), x4, x5) := ⟨_, _, _, _, _, rfl⟩
  have HX := hid hx
  clear hx
  go_enter Tryd.func3, Tryd.ntmps3
  go_wp2_with fail
  refine (run_any10 s r c A cap evs hl' _ hRV).mono ?_
  rintro e w1 ⟨rfl, hc⟩
  rw [HX.out]
  have HB1 := hid (HB.out.below hc)
  have hb1 := hb.trans (hc.mono hb.size)
  have hR1 := hRV.below hc
  clear hc HB hb hRV
  obtain ⟨c0, c1, c2, f0, f1, f2⟩ := HB1.out
  have a0 := ka c0
  have a1 := ka c1
  have a2 := ka c2
  go_wp2_with fail
  refine (run_any11 s r c A cap evs hl' _ (hR1.below ((Below.refl _ _).alloc (Nat.le_refl _) _))).mono ?_
  rintro e w2 ⟨rfl, hc⟩
  rw [HX.out]
  have hX := B3.below (B3.new w1 x1 x2 x3 23) hc
  have hb2 := (hb1.alloc hb1.size _).trans (hc.mono (by have := hb1.size; simp; omega))
  have hY := B3.new w2 x1 x2 x3 23
  have hX2 := hX.alloc (.cells #[.int .i64 x1, .int .i64 x2, .int .i64 x3] 23)
  have hb3 := hb2.alloc hb2.size (.cells #[.int .i64 x1, .int .i64 x2, .int .i64 x3] 23)
  clear hc HB1 hb1 hR1 c0 c1 c2 f0 f1 f2 a0 a1 a2 hX hb2
  go_wp2_with fail
  refine (begin_any n _).mono ?_
  rintro e w3 ⟨rfl, hc⟩
  have hX3 := hX2.below hc
  have hY3 := hY.below hc
  have hb4 := hb3.trans (hc.mono hb3.size)
  clear hc hX2 hY hb3
  have hZ := B3.new w3 (bgS n) (bgR n) 0 23
  have hX4 := hX3.alloc (.cells #[.int .i64 (bgS n), .int .i64 (bgR n), .int .i64 0] 23)
  have hY4 := hY3.alloc (.cells #[.int .i64 (bgS n), .int .i64 (bgR n), .int .i64 0] 23)
  have hb5 := hb4.alloc hb4.size (.cells #[.int .i64 (bgS n), .int .i64 (bgR n), .int .i64 0] 23)
  clear hX3 hY3 hb4
  go_wp2_with fail
  refine (rbegin_any n _).mono ?_
  rintro e w4 ⟨rfl, hc⟩
  have hX5 := hX4.below hc
  have hY5 := hY4.below hc
  have hZ5 := hZ.below hc
  have hb6 := hb5.trans (hc.mono hb5.size)
  clear hc hX4 hY4 hZ hb5
  have hV := B3.new w4 (bgS n) (bgR n) 0 23
  have hX6 := hX5.alloc (.cells #[.int .i64 (bgS n), .int .i64 (bgR n), .int .i64 0] 23)
  have hY6 := hY5.alloc (.cells #[.int .i64 (bgS n), .int .i64 (bgR n), .int .i64 0] 23)
  have hZ6 := hZ5.alloc (.cells #[.int .i64 (bgS n), .int .i64 (bgR n), .int .i64 0] 23)
  have hb7 := hb6.alloc hb6.size (.cells #[.int .i64 (bgS n), .int .i64 (bgR n), .int .i64 0] 23)
  clear hX5 hY5 hZ5 hb6
  obtain ⟨p0, p1, p2, _, _, _⟩ := hX6
  obtain ⟨q0, q1, q2, _, _, _⟩ := hY6
  obtain ⟨r0, r1, r2, _, _, _⟩ := hZ6
  obtain ⟨v0, v1, v2, _, _, _⟩ := hV
  go_wp2_with fail
  refine (awake_any _ (HG.out.below hb7)).mono ?_
  rintro e w5 ⟨rfl, hc⟩
  go_wp2_with fail
  go_ret
  exact ⟨rfl, hb7.trans (hc.mono hb7.size)⟩
end Go.Proofs.YtaklhokabnjjcaaDoor
