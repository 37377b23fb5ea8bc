import Derived.Test.YtaklhokabnjjcaaDoorS
namespace Go.Proofs.YtaklhokabnjjcaaDoor
open Go.RowKit
set_option linter.unusedVariables false
set_option linter.unusedSimpArgs false

theorem B3.ne {w : World} {N M : Nat} {x y z : Int} {a b c : Value} (h : B3 w N x y z) (hn : N ≠ M) : B3 (((w.setCell ⟨M, 0, none⟩ a).setCell ⟨M, 1, none⟩ b).setCell ⟨M, 2, none⟩ c) N x y z := h.other hn
set_option maxRecDepth 20000 in
set_option maxHeartbeats 40000000 in
theorem ends_walk (n : Int) (wn : (Lit.int .i64 n).wf = true) (a : Option Addr) (len cap : Nat) (z : List Int) (hcap : cap * 8 ≤ 140737488351232) (w : World) (hR : IsRow .i64 w a len cap z) (hG : GC w) :
    Calls Tryd.prog 4 #[.int .i64 n, .slice a len cap] w fun e w' => e = .returned (.bool true) ∧ Below w.heap.size w w' := by
  have HG := hid hG
  clear hG
  have HW := hid (row_wf hR)
  have hlen := row_len hR
  obtain ⟨hl, hRd⟩ := RdI.of_row hR
  generalize z.take len = xs at *
  subst hl
  clear hR
  have hn := wf64 wn
  clear wn
  go_enter Tryd.func4, Tryd.ntmps4
  go_wp2_with fail
  refine (made_any n hn.1 hn.2 a cap xs hlen HW.out _ hRd).mono ?_
  rintro e w1 ⟨⟨s, r, c, rfl, hchk⟩, hb1⟩
  have HB := hid (B3.new w1 s r c 23)
  have hb := hb1.alloc hb1.size (.cells #[.int .i64 s, .int .i64 r, .int .i64 c] 23)
  have HC := hid hchk
  clear hchk hRd HW
  obtain ⟨g0, g1⟩ := HG.out.below hb1
  have a0 := ka g0
  have a1 := ka g1
  go_wp2_with fail
  refine (next_any _ _ _ _ _ _).mono ?_
  rintro e w2 ⟨rfl, hc⟩
  have HM := hid (HB.out.below hc)
  have hb2 := hb.trans (hc.mono hb.size)
  have HWM := hid hb1.size
  clear hc HB hb hb1 g0 g1 a0 a1
  generalize w1.heap.size = M at *
  have HX := hid (B3.new w2 (nS s r c 4 3) (nR s r c 4 3) (nC s r c 4 3) 23)
  have HM2 := hid (HM.out.alloc (.cells #[.int .i64 (nS s r c 4 3), .int .i64 (nR s r c 4 3), .int .i64 (nC s r c 4 3)] 23))
  have hMX : M < w2.heap.size := HM.out.lt
  have hb := hb2.alloc hb2.size (.cells #[.int .i64 (nS s r c 4 3), .int .i64 (nR s r c 4 3), .int .i64 (nC s r c 4 3)] 23)
  clear HM hb2
  go_upto_if 38 with fail
  generalize w2.alloc (.cells #[.int .i64 (nS s r c 4 3), .int .i64 (nR s r c 4 3), .int .i64 (nC s r c 4 3)] 23) = W at *
  generalize w2.heap.size = NX at *
  go_cut [8] (fun s8 wx => B3 wx M s r c ∧ Below w.heap.size w wx)
  case first => as_aux_lemma =>
    by_cases hE : nE s r c 4 3 = 0
    · obtain ⟨d0, d1, d2, d3⟩ := claim_drop HC.out hE
      have e1 : (nE s r c 4 3 == 0) = true := by simp [hE]
      clear hE
      generalize nS s r c 4 3 = x1 at *
      generalize nR s r c 4 3 = x2 at *
      generalize nC s r c 4 3 = x3 at *
      have D := hid (And.intro d0 (And.intro d1 (And.intro d2 d3)))
      clear d0 d1 d2 d3
      have HM := HM2
      obtain ⟨c0, c1, c2⟩ := HX.out.flat
      go_wp2_with fail
      have hNl : NX < W.heap.size := World.block_lt_of_cell? W _ c0
      have n0 := World.new_ne W _ c0
      simp only at n0
      go_cut [9, 10] (fun sA sE wx => ∃ MM : Nat, sA = .pointer (some ⟨MM, 0, none⟩) ∧ sE = .int .i64 (nE x1 x2 x3 5 0) ∧ B3 wx MM (nS x1 x2 x3 5 0) (nR x1 x2 x3 5 0) (nC x1 x2 x3 5 0) ∧ B3 wx M s r c ∧ M < MM ∧ Below w.heap.size w wx)
      case first => as_aux_lemma =>
        go_region_held3 (fun w' => w'.cell? ⟨NX, 0, none⟩ = some (.int .i64 x1) ∧ w'.cell? ⟨NX, 1, none⟩ = some (.int .i64 x2) ∧ w'.cell? ⟨NX, 2, none⟩ = some (.int .i64 x3))
          (first | ((try go_split_ands); (repeat' apply And.intro) <;> (repeat (first | assumption | with_reducible apply ka | with_reducible apply kd | (with_reducible refine so ?_ (by simp <;> omega)) | (with_reducible apply kc; assumption))); done) | go_keep)
          (first | (go_at_call 16; refine (ev_any _ _).mono ?_; rintro e w' ⟨rfl, rfl⟩) | (go_at_call 15; refine (next_any _ _ _ _ _ _).mono ?_; rintro e w9 ⟨rfl, hb9⟩; obtain ⟨hc1, hf1⟩ := bcell hb9))
        all_goals
          go_wp2_with fail
          go_meet
          have hWw : Below W.heap.size W w9 := by
            refine Below.trans ?_ (hb9.mono (by simp <;> omega))
            repeat (first | exact Below.refl _ _ | refine Below.alloc ?_ (by simp <;> omega) _ | refine Below.drew ?_)
          have hA1 := HM.out.below hWw
          have hMl := HM.out.lt
          have hb4 := hb.trans (hWw.mono hb.size)
          have hs4 := hb4.size
          have hs3 := hb.size
          have hs9 := hWw.size
          first
            | exact ⟨w9.heap.size, rfl, rfl, B3.new _ _ _ _ _, hA1.alloc _, by omega, hb4.alloc hs4 _⟩
            | (refine ⟨_, rfl, rfl, B3.set (x := 0) (y := 0) (z := 0) ⟨kc hb9 ?_, kc hb9 ?_, kc hb9 ?_, kf hb9 (v := .int .i64 0) ?_ ?_, kf hb9 (v := .int .i64 0) ?_ ?_, kf hb9 (v := .int .i64 0) ?_ ?_⟩, hA1.other ?_, ?_, Below.setCell (Below.setCell (Below.setCell hb4 ?_ _) ?_ _) ?_ _⟩ <;> first | (simp [go_sem]; done) | (simp; omega) | omega | (trace_state; sorry))
      case rest =>
        obtain ⟨M2, rfl, rfl, hX, hM, hlt, hbb⟩ := hcut
        obtain ⟨d0, d1, d2, d3⟩ := D.out
        rw [d1, d2, d3] at hX
        rw [d0]
        clear d0 d1 d2 d3 D c0 c1 c2
        have HM' := hid hM
        obtain ⟨c0, c1, c2⟩ := hM.flat
        obtain ⟨x0, x1, x2⟩ := hX.flat
        clear hM hX
        go_wp2_with fail
        go_meet
        exact ⟨HM'.out, hbb⟩
    · have e1 : (nE s r c 4 3 == 0) = false := by simp [hE]
      clear hE
      go_wp2_with fail
      go_meet
      exact ⟨HM2.out, hb⟩
  case rest =>
    obtain ⟨hM, hb⟩ := hcut
    have HM := hid hM
    clear hM HX HM2 hMX
    generalize wc = W at *
    obtain ⟨c0, c1, c2⟩ := HM.out.flat
    skip
    go_wp2_with fail
    have hNl : M < W.heap.size := World.block_lt_of_cell? W _ c0
    have n0 := World.new_ne W _ c0
    simp only at n0
    go_cut [11, 12] (fun sA sE wx => ∃ MM : Nat, sA = .pointer (some ⟨MM, 0, none⟩) ∧ sE = .int .i64 (nE s r c 1 0) ∧ B3 wx MM (nS s r c 1 0) (nR s r c 1 0) (nC s r c 1 0) ∧ B3 wx M s r c ∧ M < MM ∧ Below w.heap.size w wx)
    case first => as_aux_lemma =>
      go_region_held3 (fun w' => w'.cell? ⟨M, 0, none⟩ = some (.int .i64 s) ∧ w'.cell? ⟨M, 1, none⟩ = some (.int .i64 r) ∧ w'.cell? ⟨M, 2, none⟩ = some (.int .i64 c))
        (first | ((try go_split_ands); (repeat' apply And.intro) <;> (repeat (first | assumption | with_reducible apply ka | with_reducible apply kd | (with_reducible refine so ?_ (by simp <;> omega)) | (with_reducible apply kc; assumption))); done) | go_keep)
        (first | (go_at_call 16; refine (ev_any _ _).mono ?_; rintro e w' ⟨rfl, rfl⟩) | (go_at_call 15; refine (next_any _ _ _ _ _ _).mono ?_; rintro e w9 ⟨rfl, hb9⟩; obtain ⟨hc1, hf1⟩ := bcell hb9))
      all_goals
        go_wp2_with fail
        go_meet
        have hWw : Below W.heap.size W w9 := by
          refine Below.trans ?_ (hb9.mono (by simp <;> omega))
          repeat (first | exact Below.refl _ _ | refine Below.alloc ?_ (by simp <;> omega) _ | refine Below.drew ?_)
        have hA1 := HM.out.below hWw
        have hMl := HM.out.lt
        have hb4 := hb.trans (hWw.mono hb.size)
        have hs4 := hb4.size
        have hs3 := hb.size
        have hs9 := hWw.size
        first
          | exact ⟨w9.heap.size, rfl, rfl, B3.new _ _ _ _ _, hA1.alloc _, by omega, hb4.alloc hs4 _⟩
          | (refine ⟨_, rfl, rfl, B3.set (x := 0) (y := 0) (z := 0) ⟨kc hb9 ?_, kc hb9 ?_, kc hb9 ?_, kf hb9 (v := .int .i64 0) ?_ ?_, kf hb9 (v := .int .i64 0) ?_ ?_, kf hb9 (v := .int .i64 0) ?_ ?_⟩, hA1.other ?_, ?_, Below.setCell (Below.setCell (Below.setCell hb4 ?_ _) ?_ _) ?_ _⟩ <;> first | (simp [go_sem]; done) | (simp; omega) | omega | (trace_state; sorry))
    case rest =>
      obtain ⟨M2, rfl, rfl, hX, hM, hlt, hb'⟩ := hcut
      clear HM hb c0 c1 c2 hNl n0
      have HM := hid hM
      have HX := hid hX
      have hb := hb'
      clear hM hX hb'
      generalize wc = W at *
      go_upto_if 59 with fail
      go_cut [12] (fun s12 wx => B3 wx M s r c ∧ Below w.heap.size w wx)
      case first => as_aux_lemma =>
        by_cases hE : nE s r c 1 0 = 0
        · obtain ⟨d0, d1, d2, d3, d4⟩ := share_lose HC.out hE
          have e1 : (nE s r c 1 0 == 0) = true := by simp [hE]
          rw [d4] at d0 d1 d2 d3
          have hX := HX.out
          rw [d4] at hX
          clear hE HX
          have HX := hid hX
          clear hX d4
          have D := hid (And.intro d0 (And.intro d1 (And.intro d2 d3)))
          clear d0 d1 d2 d3
          generalize nR s r c 1 0 = x2 at *
          generalize nC s r c 1 0 = x3 at *
          obtain ⟨c0, c1, c2⟩ := HX.out.flat
          go_wp2_with fail
          have hNl : M2 < W.heap.size := World.block_lt_of_cell? W _ c0
          have n0 := World.new_ne W _ c0
          simp only at n0
          go_cut [13, 14] (fun sA sE wx => ∃ MM : Nat, sA = .pointer (some ⟨MM, 0, none⟩) ∧ sE = .int .i64 (nE s x2 x3 2 0) ∧ B3 wx MM (nS s x2 x3 2 0) (nR s x2 x3 2 0) (nC s x2 x3 2 0) ∧ B3 wx M s r c ∧ B3 wx M2 s x2 x3 ∧ M < MM ∧ Below w.heap.size w wx)
          case first => as_aux_lemma =>
            go_region_held3 (fun w' => w'.cell? ⟨M2, 0, none⟩ = some (.int .i64 s) ∧ w'.cell? ⟨M2, 1, none⟩ = some (.int .i64 x2) ∧ w'.cell? ⟨M2, 2, none⟩ = some (.int .i64 x3))
              (first | ((try go_split_ands); (repeat' apply And.intro) <;> (repeat (first | assumption | with_reducible apply ka | with_reducible apply kd | (with_reducible refine so ?_ (by simp <;> omega)) | (with_reducible apply kc; assumption))); done) | go_keep)
              (first | (go_at_call 16; refine (ev_any _ _).mono ?_; rintro e w' ⟨rfl, rfl⟩) | (go_at_call 15; refine (next_any _ _ _ _ _ _).mono ?_; rintro e w9 ⟨rfl, hb9⟩; obtain ⟨hc1, hf1⟩ := bcell hb9))
            all_goals
              go_wp2_with fail
              go_meet
              have hWw : Below W.heap.size W w9 := by
                refine Below.trans ?_ (hb9.mono (by simp <;> omega))
                repeat (first | exact Below.refl _ _ | refine Below.alloc ?_ (by simp <;> omega) _ | refine Below.drew ?_)
              have hA1 := HM.out.below hWw
              have hMl := HM.out.lt
              have hb4 := hb.trans (hWw.mono hb.size)
              have hs4 := hb4.size
              have hs3 := hb.size
              have hs9 := hWw.size
              first
                | exact ⟨w9.heap.size, rfl, rfl, B3.new _ _ _ _ _, hA1.alloc _, (HX.out.below hWw).alloc _, by omega, hb4.alloc hs4 _⟩
                | (refine ⟨_, rfl, rfl, B3.set (x := 0) (y := 0) (z := 0) ⟨kc hb9 ?_, kc hb9 ?_, kc hb9 ?_, kf hb9 (v := .int .i64 0) ?_ ?_, kf hb9 (v := .int .i64 0) ?_ ?_, kf hb9 (v := .int .i64 0) ?_ ?_⟩, hA1.other ?_, (HX.out.below hWw).other ?_, ?_, Below.setCell (Below.setCell (Below.setCell hb4 ?_ _) ?_ _) ?_ _⟩ <;> first | (simp [go_sem]; done) | (simp; omega) | omega | (trace_state; sorry))
          case rest =>
            obtain ⟨M3, rfl, rfl, hY, hM, hX, hlt3, hbb⟩ := hcut
            obtain ⟨d0, d1, d2, d3⟩ := D.out
            rw [d1, d2, d3] at hY
            rw [d0]
            clear d0 d1 d2 d3 D c0 c1 c2 HX
            have HM' := hid hM
            obtain ⟨c0, c1, c2⟩ := hM.flat
            obtain ⟨x0, _, _⟩ := hX.flat
            obtain ⟨y0, y1, y2⟩ := hY.flat
            clear hM hX hY
            go_wp2_with fail
            go_meet
            exact ⟨HM'.out, hbb⟩
        · have e1 : (nE s r c 1 0 == 0) = false := by simp [hE]
          clear hE
          go_wp2_with fail
          go_meet
          exact ⟨HM.out, hb⟩
      case rest =>
        obtain ⟨hM, hb'⟩ := hcut
        clear HM hb HX
        have HM := hid hM
        have hb := hb'
        clear hM hb'
        generalize wc = W at *
        obtain ⟨c0, c1, c2⟩ := HM.out.flat
        go_wp2_with fail
        have hNl : M < W.heap.size := World.block_lt_of_cell? W _ c0
        have n0 := World.new_ne W _ c0
        simp only at n0
        go_cut [15, 16] (fun sA sE wx => ∃ MM : Nat, sA = .pointer (some ⟨MM, 0, none⟩) ∧ sE = .int .i64 (nE s r c 6 0) ∧ B3 wx MM (nS s r c 6 0) (nR s r c 6 0) (nC s r c 6 0) ∧ B3 wx M s r c ∧ M < MM ∧ Below w.heap.size w wx)
        case first => as_aux_lemma =>
          go_region_held3 (fun w' => w'.cell? ⟨M, 0, none⟩ = some (.int .i64 s) ∧ w'.cell? ⟨M, 1, none⟩ = some (.int .i64 r) ∧ w'.cell? ⟨M, 2, none⟩ = some (.int .i64 c))
            (first | ((try go_split_ands); (repeat' apply And.intro) <;> (repeat (first | assumption | with_reducible apply ka | with_reducible apply kd | (with_reducible refine so ?_ (by simp <;> omega)) | (with_reducible apply kc; assumption))); done) | go_keep)
            (first | (go_at_call 16; refine (ev_any _ _).mono ?_; rintro e w' ⟨rfl, rfl⟩) | (go_at_call 15; refine (next_any _ _ _ _ _ _).mono ?_; rintro e w9 ⟨rfl, hb9⟩; obtain ⟨hc1, hf1⟩ := bcell hb9))
          all_goals
            go_wp2_with fail
            go_meet
            have hWw : Below W.heap.size W w9 := by
              refine Below.trans ?_ (hb9.mono (by simp <;> omega))
              repeat (first | exact Below.refl _ _ | refine Below.alloc ?_ (by simp <;> omega) _ | refine Below.drew ?_)
            have hA1 := HM.out.below hWw
            have hMl := HM.out.lt
            have hb4 := hb.trans (hWw.mono hb.size)
            have hs4 := hb4.size
            have hs3 := hb.size
            have hs9 := hWw.size
            first
              | exact ⟨w9.heap.size, rfl, rfl, B3.new _ _ _ _ _, hA1.alloc _, by omega, hb4.alloc hs4 _⟩
              | (refine ⟨_, rfl, rfl, B3.set (x := 0) (y := 0) (z := 0) ⟨kc hb9 ?_, kc hb9 ?_, kc hb9 ?_, kf hb9 (v := .int .i64 0) ?_ ?_, kf hb9 (v := .int .i64 0) ?_ ?_, kf hb9 (v := .int .i64 0) ?_ ?_⟩, hA1.other ?_, ?_, Below.setCell (Below.setCell (Below.setCell hb4 ?_ _) ?_ _) ?_ _⟩ <;> first | (simp [go_sem]; done) | (simp; omega) | omega | (trace_state; sorry))
        case rest =>
          obtain ⟨M4, rfl, rfl, hX, hM, hlt4, hb'⟩ := hcut
          clear HM hb c0 c1 c2 hNl n0
          have HM := hid hM
          have HX := hid hX
          have hb := hb'
          clear hM hX hb'
          generalize wc = W at *
          go_upto_if 87 with fail
          go_cut [16] (fun s16 wx => B3 wx M s r c ∧ Below w.heap.size w wx)
          case first => as_aux_lemma =>
            obtain ⟨c0, c1, c2⟩ := HM.out.flat
            by_cases hE : nE s r c 6 0 = 0
            · have e1 : (nE s r c 6 0 == 0) = true := by simp [hE]
              obtain ⟨s0, s1, r0, r1⟩ := chk_bounds HC.out
              have hX := HX.out
              rcases complete_is HC.out hE with ⟨hc, d1, d2, d3⟩ | ⟨hc, hr, d1, d2, d3⟩ | ⟨hc, hr, d1⟩
              · rw [d1, d2, d3] at hX
                clear d1 d2 d3 hE
                have e2 : (c == 0) = false := by simp; omega
                have e3 : decide (0 < c) = true := by simp; omega
                obtain ⟨x0, x1, x2⟩ := hX.flat
                clear hX
                go_wp2_with fail
                go_meet
                exact ⟨HM.out, hb⟩
              · rw [d1, d2, d3] at hX
                clear d1 d2 d3 hE
                have e2 : (c == 0) = true := by simp; omega
                have e3 : decide (0 < c) = false := by simp; omega
                have e4 : (r == 0) = false := by simp; omega
                have e5 : decide (0 < r) = true := by simp; omega
                obtain ⟨x0, x1, x2⟩ := hX.flat
                clear hX hc
                go_wp2_with fail
                go_meet
                exact ⟨HM.out, hb⟩
              · rw [d1] at hX
                clear d1 hE
                have e2 : (c == 0) = true := by simp; omega
                have e3 : decide (0 < c) = false := by simp; omega
                have e4 : (r == 0) = true := by simp; omega
                have e5 : decide (0 < r) = false := by simp; omega
                obtain ⟨x0, x1, x2⟩ := hX.flat
                clear hX hc hr
                go_wp2_with fail
                go_meet
                exact ⟨HM.out, hb⟩
            · have e1 : (nE s r c 6 0 == 0) = false := by simp [hE]
              clear hE
              go_wp2_with fail
              go_meet
              exact ⟨HM.out, hb⟩
          case rest =>
            obtain ⟨hM, hb'⟩ := hcut
            clear HM hb HX
            have HM := hid hM
            have hb := hb'
            clear hM hb'
            generalize wc = W at *
            obtain ⟨c0, c1, c2⟩ := HM.out.flat
            by_cases h5 : s = 5
            · have e1 : (s == 5) = true := by simp [h5]
              clear h5
              go_wp2_with fail
              refine (awake_any _ (HG.out.below hb)).mono ?_
              rintro e w5 ⟨rfl, hc⟩
              go_wp2_with fail
              go_ret
              exact ⟨rfl, hb.trans (hc.mono hb.size)⟩
            have e1 : (s == 5) = false := by simp [h5]
            obtain ⟨s0, s1, r0, r1⟩ := chk_bounds HC.out
            have H5 := hid h5
            clear h5
            have hNW := B3.new W s r c 23
            have hM2 := HM.out.alloc (.cells #[.int .i64 s, .int .i64 r, .int .i64 c] 23)
            have hb2 := hb.alloc hb.size (.cells #[.int .i64 s, .int .i64 r, .int .i64 c] 23)
            have hMN : M < W.heap.size := HM.out.lt
            clear HM hb
            go_wp2_with fail
            generalize W.alloc (.cells #[.int .i64 s, .int .i64 r, .int .i64 c] 23) = W1 at *
            generalize W.heap.size = NW at *
            clear c0 c1 c2 e1 s0 s1
            go_loopw [18] (fun i wr => ∃ (k : Nat) (s' r' c' : Int), i = .int .i64 k ∧ chk s' r' c' = 0 ∧ s' ≠ 5 ∧ (k : Int) + need s' r' ≤ r + 2 ∧ B3 wr M s' r' c' ∧ B3 wr NW s r c ∧ Below w.heap.size w wr) (fun i _ => 520 - (intOf i).toNat)
            case atStart =>
              exact ⟨0, s, r, c, rfl, HC.out, H5.out, by have := need_start HC.out; omega, hM2, hNW, hb2⟩
            case round =>
              obtain ⟨k, s', r', c', rfl, hchk, h5', hneed, hM, hN, hb⟩ := hrel
              have HM := hid hM
              have HN := hid hN
              have HC' := hid hchk
              have H5' := hid h5'
              have HND := hid hneed
              obtain ⟨s0', s1', r0', r1'⟩ := chk_bounds hchk
              have hnn := need_pos hchk
              have hk514 : k ≤ 514 := by omega
              obtain ⟨c0, c1, c2⟩ := hM.flat
              obtain ⟨q0, q1, q2⟩ := hN.flat
              clear hM hN hM2 hNW hb2
              by_cases h6 : s' = 6
              · have e6 : (s' != 6) = false := by simp [h6]
                have e7 : (s' == 6) = true := by simp [h6]
                clear h6 hneed hchk h5' hnn
                by_cases hlt : (k : Int) < r + 2
                all_goals
                  go_wp2_with fail
                  refine (awake_any _ (HG.out.below hb)).mono ?_
                  rintro e w5 ⟨rfl, hc⟩
                  go_wp2_with fail
                  go_ret
                  exact ⟨rfl, hb.trans (hc.mono hb.size)⟩
              · have e6 : (s' != 6) = true := by simp [h6]
                have hlt : (k : Int) < r + 2 := by
                  rcases Int.lt_or_le (k : Int) (r + 2) with h | h
                  · exact h
                  · exact absurd (need_end hchk h5' (by omega)) h6
                have H6 := hid h6
                clear h6 hneed hchk h5' hnn
                go_wp2_with fail
                have hM3 := HM.out.alloc (.cells #[.int .i64 5, .int .i64 2, .int .i64 6] 3)
                have hN3 := HN.out.alloc (.cells #[.int .i64 5, .int .i64 2, .int .i64 6] 3)
                have hb3 := hb.alloc hb.size (.cells #[.int .i64 5, .int .i64 2, .int .i64 6] 3)
                have hK : RdI (wr.alloc (.cells #[.int .i64 5, .int .i64 2, .int .i64 6] 3)) (some ⟨wr.heap.size, 0, none⟩) kds := by
                  refine Or.inr ⟨_, 0, rfl, fun i hi => ?_⟩
                  have : i = 0 ∨ i = 1 ∨ i = 2 := by simp [kds] at hi; omega
                  rcases this with rfl | rfl | rfl <;> simp [kds, go_sem]
                clear HM HN hb c0 c1 c2 q0 q1 q2
                generalize wr.alloc (.cells #[.int .i64 5, .int .i64 2, .int .i64 6] 3) = W3 at *
                generalize wr.heap.size = BS at *
                go_loopw [149] (fun v wi => ∃ q : Nat, q ≤ 3 ∧ v = .int .i64 q ∧ (∀ i (hi : i < q) (h' : i < kds.length), nE s' r' c' kds[i] 0 ≠ 0) ∧ B3 wi M s' r' c' ∧ B3 wi NW s r c ∧ RdI wi (some ⟨BS, 0, none⟩) kds ∧ Below w.heap.size w wi) (fun v _ => 3 - (intOf v).toNat)
                case atStart =>
                  exact ⟨0, by omega, rfl, fun i hi => absurd hi (by omega), hM3, hN3, hK, hb3⟩
                case round =>
                  obtain ⟨q, hq, rfl, hP, hM, hN, hK', hb⟩ := hrel
                  have HM := hid hM
                  have HN := hid hN
                  have HK := hid hK'
                  have HP := hid hP
                  obtain ⟨c0, c1, c2⟩ := hM.flat
                  clear hM hN hP hM3 hN3 hb3 hK
                  by_cases hq3 : q < 3
                  · have hql : q < kds.length := hq3
                    obtain ⟨b, off, hbo, x0⟩ := hK'.at_ hql
                    cases hbo
                    rw [Nat.zero_add] at x0
                    have i0 : (0 : Int) ≤ (q : Int) := by omega
                    have i1 : (q : Int) < 3 := by omega
                    generalize hkd : kds[q] = kd' at *
                    clear hK'
                    generalize wr = W at *
                    go_wp2_with fail
                    have hNl : M < W.heap.size := World.block_lt_of_cell? W _ c0
                    have n0 := World.new_ne W _ c0
                    simp only at n0
                    go_cut [21, 22] (fun sA sE wx => ∃ MM : Nat, sA = .pointer (some ⟨MM, 0, none⟩) ∧ sE = .int .i64 (nE s' r' c' kd' 0) ∧ B3 wx MM (nS s' r' c' kd' 0) (nR s' r' c' kd' 0) (nC s' r' c' kd' 0) ∧ W.heap.size ≤ MM ∧ Below W.heap.size W wx)
                    case first => as_aux_lemma =>
                      go_region_held3 (fun w' => w'.cell? ⟨M, 0, none⟩ = some (.int .i64 s') ∧ w'.cell? ⟨M, 1, none⟩ = some (.int .i64 r') ∧ w'.cell? ⟨M, 2, none⟩ = some (.int .i64 c'))
                        (first | ((try go_split_ands); (repeat' apply And.intro) <;> (repeat (first | assumption | with_reducible apply ka | with_reducible apply kd | (with_reducible refine so ?_ (by simp <;> omega)) | (with_reducible apply kc; assumption))); done) | go_keep)
                        (first | (go_at_call 16; refine (ev_any _ _).mono ?_; rintro e w' ⟨rfl, rfl⟩) | (go_at_call 15; refine (next_any _ _ _ _ _ _).mono ?_; rintro e w9 ⟨rfl, hb9⟩; obtain ⟨hc1, hf1⟩ := bcell hb9))
                      all_goals
                        go_wp2_with fail
                        go_meet
                        have hWw : Below W.heap.size W w9 := by
                          refine Below.trans ?_ (hb9.mono (by simp <;> omega))
                          repeat (first | exact Below.refl _ _ | refine Below.alloc ?_ (by simp <;> omega) _ | refine Below.drew ?_)
                        have hs9 := hWw.size
                        first
                          | exact ⟨w9.heap.size, rfl, rfl, B3.new _ _ _ _ _, hs9, hWw.alloc hs9 _⟩
                          | (refine ⟨_, rfl, rfl, B3.set (x := 0) (y := 0) (z := 0) ⟨kc hb9 ?_, kc hb9 ?_, kc hb9 ?_, kf hb9 (v := .int .i64 0) ?_ ?_, kf hb9 (v := .int .i64 0) ?_ ?_, kf hb9 (v := .int .i64 0) ?_ ?_⟩, ?_, Below.setCell (Below.setCell (Below.setCell hWw ?_ _) ?_ _) ?_ _⟩ <;> first | (simp [go_sem]; done) | (simp; omega) | omega)
                    case rest =>
                      obtain ⟨MM, rfl, rfl, hX, hMM, hbb⟩ := hcut
                      have HM1 := hid (HM.out.below hbb)
                      have HN1 := hid (HN.out.below hbb)
                      have HK1 := hid (HK.out.below hbb)
                      have hb1 := hb.trans (hbb.mono hb.size)
                      clear c0 c1 c2 x0 HM HN HK hb hbb
                      obtain ⟨x0, x1, x2⟩ := hX.flat
                      clear hX
                      by_cases hE : nE s' r' c' kd' 0 = 0
                      · have e1 : (nE s' r' c' kd' 0 == 0) = true := by simp [hE]
                        have hst := need_step HC'.out H5'.out H6.out q hql HP.out (by rw [hkd]; exact hE)
                        rw [hkd] at hst
                        have HST := hid hst
                        clear hst hE
                        obtain ⟨c0, c1, c2, f0, f1, f2⟩ := HM1.out
                        go_wp2_with fail
                        refine ⟨⟨k + 1, nS s' r' c' kd' 0, nR s' r' c' kd' 0, nC s' r' c' kd' 0, by go_num, HST.out.1, HST.out.2.1, ?_, HM1.out.set, HN1.out.other (by omega), ?_⟩, by simp [intOf]; omega⟩
                        · have := HST.out.2.2
                          have := HND.out
                          push_cast
                          omega
                        · have hwM : w.heap.size ≤ M := HWM.out
                          exact ((hb1.setCell hwM _).setCell hwM _).setCell hwM _
                      · have e1 : (nE s' r' c' kd' 0 == 0) = false := by simp [hE]
                        have HE := hid hE
                        clear hE
                        go_wp2_with fail
                        refine ⟨⟨q + 1, by omega, by go_num, fun i hi h' => ?_, HM1.out, HN1.out, HK1.out, hb1⟩, by simp [intOf]; omega⟩
                        by_cases hiq : i = q
                        · subst hiq
                          rw [hkd]
                          exact HE.out
                        · exact HP.out i (by omega) h'
                  · exfalso
                    exact need_some HC'.out H5'.out H6.out fun i h' => HP.out i (by simp [kds] at h'; omega) h'
end Go.Proofs.YtaklhokabnjjcaaDoor
