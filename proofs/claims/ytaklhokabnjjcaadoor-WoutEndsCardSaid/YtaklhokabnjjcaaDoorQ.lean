import Derived.Test.YtaklhokabnjjcaaDoorP
namespace Go.Proofs.YtaklhokabnjjcaaDoor
open Go.RowKit
set_option linter.unusedVariables false
set_option linter.unusedSimpArgs false

theorem mod_any (n m : Int) (n0 : -9223372036854775808 ≤ n) (n1 : n ≤ 9223372036854775807) (m0 : 1 ≤ m) (m1 : m ≤ 1000000) (w : World) :
    Calls Tryd.prog 30 #[.int .i64 n, .int .i64 m] w fun e w' => e = .returned (.int .i64 (n % m)) ∧ w = w' := by
  by_cases h : 0 ≤ n
  · have hm : 0 ≤ n % m := Int.emod_nonneg n (by omega)
    go_enter Tryd.func30, Tryd.ntmps30
    go_wp2_with fail
    go_ret
    exact ⟨rfl, rfl⟩
  · have hn := mod_neg (n := n) (m := m) (by omega) m0
    have hb := hn.2.2
    have H1 := hid hn.1
    have H2 := hid hn.2.1
    clear hn
    go_enter Tryd.func30, Tryd.ntmps30
    go_wp2_with fail
    · go_ret
      exact ⟨ret_int (H1.out ‹_›), rfl⟩
    · go_ret
      exact ⟨ret_int (H2.out ‹_›), rfl⟩

theorem ev_b (k : Int) (w : World) :
    Calls Tryd.prog 16 #[.int .i64 k] w fun e w' => e = .returned (.agg #[.int .i64 k, .int .i64 0]) ∧ Below w.heap.size w w' :=
  (ev_any k w).mono fun e w' h => ⟨h.1, by rw [← h.2]; exact (Below.refl _ _).alloc (Nat.le_refl _) _⟩
theorem tdiv6 {x : Int} (h0 : -9223372036854775808 ≤ x) (h1 : x ≤ 9223372036854775807) : -9223372036854775808 ≤ x.tdiv 6 ∧ x.tdiv 6 ≤ 9223372036854775807 := by
  have h := Int.tmod_add_mul_tdiv x 6
  have a := Int.tmod_lt_of_pos x (show 0 < (6 : Int) by omega)
  by_cases h2 : 0 ≤ x
  · have b := Int.tmod_nonneg 6 h2
    omega
  · have hb := (mod_neg (n := x) (m := 6) (by omega) (by omega)).2.2
    have b : x.tmod 6 ≤ 0 := by
      have := Int.tmod_nonneg 6 (show 0 ≤ -x by omega)
      rw [Int.neg_tmod] at this
      omega
    omega
theorem chk_next {s r c k p : Int} (h : chk s r c = 0) (hn : nE s r c k p = 0) : chk (nS s r c k p) (nR s r c k p) (nC s r c k p) = 0 := by
  have hw : wrongE s r k p = 0 := by
    unfold nE at hn
    rwa [if_pos h] at hn
  have ho : okN s r c k p := ⟨h, hw⟩
  unfold nS nR nC
  rw [if_pos ho, if_pos ho, if_pos ho]
  obtain ⟨s0, s1, r0, r1⟩ := chk_bounds h
  obtain ⟨k0, k1⟩ := wrong_kind hw
  have hs : s = 1 ∨ s = 2 ∨ s = 3 ∨ s = 4 ∨ s = 5 ∨ s = 6 := by omega
  have hk : k = 1 ∨ k = 2 ∨ k = 3 ∨ k = 4 ∨ k = 5 ∨ k = 6 := by omega
  clear ho hn s0 s1 k0 k1
  rcases hs with rfl | rfl | rfl | rfl | rfl | rfl <;> rcases hk with rfl | rfl | rfl | rfl | rfl | rfl <;> simp [wrongE, posE] at hw <;> simp [chk] at h <;> simp [chk, dS, dR, dC] <;> (try omega) <;> (repeat' split) <;> simp <;> omega
theorem bg_chk {n : Int} (h0 : 1 ≤ n) (h1 : n ≤ 5) : bgE n = 0 ∧ bgS n = 1 ∧ bgR n = n ∧ chk 1 n 0 = 0 := by
  have hn : ¬ (n < 1 ∨ 512 < n) := by omega
  refine ⟨if_neg hn, if_neg hn, if_neg hn, ?_⟩
  simp [chk]
  omega

set_option maxHeartbeats 4000000 in
theorem made_any (n : Int) (n0 : -9223372036854775808 ≤ n) (n1 : n ≤ 9223372036854775807) (A : Option Addr) (ca : Nat) (xs : List Int) (hl : xs.length ≤ 9223372036854775807) (wx : ∀ x ∈ xs, -9223372036854775808 ≤ x ∧ x ≤ 9223372036854775807) (w : World) (hA : RdI w A xs) :
    Calls Tryd.prog 14 #[.int .i64 n, .slice A xs.length ca] w fun e w' => (∃ s r c : Int, e = .returned (.tuple #[.agg #[.int .i64 s, .int .i64 r, .int .i64 c], .bool true]) ∧ chk s r c = 0) ∧ Below w.heap.size w w' := by
  have m0 : 0 ≤ n % 5 := Int.emod_nonneg n (by omega)
  have m1 : n % 5 < 5 := Int.emod_lt_of_pos n (by omega)
  have hQ := B3.new w 0 0 0 23
  have hb := (Below.refl w.heap.size w).alloc (Nat.le_refl _) (.cells #[.int .i64 0, .int .i64 0, .int .i64 0] 23)
  have HAin := hid hA
  clear hA
  go_enter Tryd.func14, Tryd.ntmps14
  go_wp2_with fail
  refine (mod_any _ _ n0 n1 (by omega) (by omega) _).mono ?_
  rintro e w' ⟨rfl, rfl⟩
  go_wp2_with fail
  refine (begin_any _ _).mono ?_
  rintro e w1 ⟨rfl, hc⟩
  obtain ⟨b0, b1, b2, hchk⟩ := bg_chk (n := 1 + n % 5) (by omega) (by omega)
  rw [b0, b1, b2]
  generalize 1 + n % 5 = z at *
  clear b0 b1 b2 m0 m1
  have hQ1 := (hQ.below hc).alloc (.cells #[.int .i64 1, .int .i64 z, .int .i64 0] 23)
  have hb0 := hb.trans (hc.mono hb.size)
  have hb1 := hb0.alloc hb0.size (.cells #[.int .i64 1, .int .i64 z, .int .i64 0] 23)
  have hM := B3.new w1 1 z 0 23
  have hlt : w.heap.size < w1.heap.size := (hQ.below hc).lt
  clear hb0 hQ hc hb
  have HCHK := hid hchk
  clear hchk
  go_wp2_with fail
  generalize hW1 : w1.alloc (.cells #[.int .i64 1, .int .i64 z, .int .i64 0] 23) = W1 at *
  generalize hN1 : w1.heap.size = M at *
  clear hW1 hN1
  go_loopw [8] (fun i wr => ∃ (k : Nat) (s r c : Int), k ≤ xs.length ∧ k ≤ 40 ∧ i = .int .i64 k ∧ chk s r c = 0 ∧ B3 wr M s r c ∧ B3 wr w.heap.size 0 0 0 ∧ Below w.heap.size w wr) (fun i _ => 41 - (intOf i).toNat)
  case atStart => exact ⟨0, 1, z, 0, by omega, by omega, rfl, HCHK.out, hM, hQ1, hb1⟩
  case round =>
    obtain ⟨k, s, r, c, hk, hk4, rfl, hchk, hB, hQ, hb⟩ := hrel
    have hA := HAin.out.below hb
    have HC := hid hchk
    have HB := hid hB
    have HQ := hid hQ
    clear hchk hM hQ1 hb1 HCHK
    obtain ⟨c0, c1, c2, f0, f1, f2⟩ := hB
    obtain ⟨q0, q1, q2, g0, g1, g2⟩ := hQ
    by_cases hlt' : k < xs.length
    · by_cases h40 : k < 40
      · obtain ⟨b, off, rfl, x0⟩ := hA.at_ hlt'
        obtain ⟨w0, w1'⟩ := wx xs[k] (List.getElem_mem hlt')
        have i0 : (0 : Int) ≤ (k : Int) := by omega
        have i1 : (k : Int) < (xs.length : Int) := by omega
        have p0 : 0 ≤ xs[k] % 6 := Int.emod_nonneg _ (by omega)
        have p1 : xs[k] % 6 < 6 := Int.emod_lt_of_pos _ (by omega)
        go_wp2_with fail
        refine (mod_any _ _ w0 w1' (by omega) (by omega) _).mono ?_
        rintro e w' ⟨rfl, rfl⟩
        go_wp2_with fail
        refine (ev_b _ _).mono ?_
        rintro e w2 ⟨rfl, hc⟩
        have y0 := kc hc x0
        have HB1 := hid (HB.out.below hc)
        have HQ1 := hid (HQ.out.below hc)
        have hb1 := hb.trans (hc.mono hb.size)
        clear hc HB HQ hA hb c0 c1 c2 f0 f1 f2 q0 q1 q2 g0 g1 g2 x0
        by_cases h4 : xs[k] % 6 = 3
        · rw [h4]
          have d0 := tdiv6 w0 w1'
          have z0 := ka y0
          clear p0 p1 h4
          go_wp2_with fail
          refine (mod_any _ _ d0.1 d0.2 (by omega) (by omega) _).mono ?_
          rintro e w' ⟨rfl, rfl⟩
          have r0 : 0 ≤ xs[k].tdiv 6 % 8 := Int.emod_nonneg _ (by omega)
          have r1 : xs[k].tdiv 6 % 8 < 8 := Int.emod_lt_of_pos _ (by omega)
          have hd : Below w2.heap.size w2 (w2.alloc (.cells #[.int .i64 4, .int .i64 (1 + xs[k].tdiv 6 % 8)] 37)) := (Below.refl _ _).alloc (Nat.le_refl _) _
          have k0 : (w2.alloc (.cells #[.int .i64 4, .int .i64 (1 + xs[k].tdiv 6 % 8)] 37)).cell? ⟨w2.heap.size, 0, none⟩ = some (.int .i64 4) := by simp [go_sem]
          have k1 : (w2.alloc (.cells #[.int .i64 4, .int .i64 (1 + xs[k].tdiv 6 % 8)] 37)).cell? ⟨w2.heap.size, 1, none⟩ = some (.int .i64 (1 + xs[k].tdiv 6 % 8)) := by simp [go_sem]
          have hBd := HB1.out.below hd
          have hQd := HQ1.out.below hd
          have hbd := hb1.trans (hd.mono hb1.size)
          have hlt2 : M < w2.heap.size := HB1.out.lt
          have hne2 : ¬ M = w2.heap.size := Nat.ne_of_lt hlt2
          obtain ⟨c0, c1, c2, f0, f1, f2⟩ := HB1.out
          have a0 := ka c0
          have a1 := ka c1
          have a2 := ka c2
          clear y0 z0
          go_wp2_with fail
          refine (next_any _ _ _ _ _ _).mono ?_
          rintro e w3 ⟨rfl, hc⟩
          clear a0 a1 a2 hne2 hlt2
          generalize 1 + xs[k].tdiv 6 % 8 = P at *
          clear k0 k1 hd
          have HB3 := hid (hBd.below hc)
          have hQ3 := hQd.below hc
          have hb3 := hbd.trans (hc.mono hbd.size)
          clear hc hBd hQd hbd c0 c1 c2 f0 f1 f2
          by_cases hE : nE s r c 4 P = 0
          · have e3 : (nE s r c 4 P == 0) = true := by simp [hE]
            have hch := chk_next HC.out hE
            rw [hE]
            clear hE
            generalize nS s r c 4 P = s' at *
            generalize nR s r c 4 P = r' at *
            generalize nC s r c 4 P = c' at *
            obtain ⟨c0, c1, c2, f0, f1, f2⟩ := HB3.out
            have a0 := ka c0
            have a1 := ka c1
            have a2 := ka c2
            have b0 := fa c0 f0
            have b1 := fa c1 f1
            have b2 := fa c2 f2
            have hB4 := HB3.out.set (x' := s') (y' := r') (z' := c')
            have hb4 := ((hb3.setCell (p := ⟨M, 0, none⟩) (Nat.le_of_lt hlt) (.int .i64 s')).setCell (p := ⟨M, 1, none⟩) (Nat.le_of_lt hlt) (.int .i64 r')).setCell (p := ⟨M, 2, none⟩) (Nat.le_of_lt hlt) (.int .i64 c')
            have hQ4 := hQ3.other (M := M) (a := .int .i64 s') (b := .int .i64 r') (c := .int .i64 c') (Nat.ne_of_lt hlt)
            have hB5 := hB4.alloc (.cells #[.int .i64 s', .int .i64 r', .int .i64 c'] 23)
            have hQ5 := hQ4.alloc (.cells #[.int .i64 s', .int .i64 r', .int .i64 c'] 23)
            have hb5 := hb4.alloc hb4.size (.cells #[.int .i64 s', .int .i64 r', .int .i64 c'] 23)
            have hB6 := (HB3.out.alloc (.cells #[.int .i64 s', .int .i64 r', .int .i64 c'] 23)).set (x' := s') (y' := r') (z' := c')
            have hQ6 := (hQ3.alloc (.cells #[.int .i64 s', .int .i64 r', .int .i64 c'] 23)).other (M := M) (a := .int .i64 s') (b := .int .i64 r') (c := .int .i64 c') (Nat.ne_of_lt hlt)
            have hb6 := (((hb3.alloc hb3.size (.cells #[.int .i64 s', .int .i64 r', .int .i64 c'] 23)).setCell (p := ⟨M, 0, none⟩) (Nat.le_of_lt hlt) (.int .i64 s')).setCell (p := ⟨M, 1, none⟩) (Nat.le_of_lt hlt) (.int .i64 r')).setCell (p := ⟨M, 2, none⟩) (Nat.le_of_lt hlt) (.int .i64 c')
            go_wp2_with fail
            refine (check_b _ _ _ _).mono ?_
            rintro e w4 ⟨rfl, hc⟩
            rw [hch]
            go_wp2_with fail
            refine ⟨⟨k + 1, s', r', c', by omega, by omega, by go_num, hch, ?_⟩, by simp [intOf]; omega⟩
            first
              | exact ⟨hB5.below hc, hQ5.below hc, hb5.trans (hc.mono hb5.size)⟩
              | exact ⟨hB6.below hc, hQ6.below hc, hb6.trans (hc.mono hb6.size)⟩
          · have e3 : (nE s r c 4 P == 0) = false := by simp [hE]
            clear hE
            have hB5 := (HB3.out.alloc (.cells #[.int .i64 (nS s r c 4 P), .int .i64 (nR s r c 4 P), .int .i64 (nC s r c 4 P)] 23))
            have hQ5 := (hQ3.alloc (.cells #[.int .i64 (nS s r c 4 P), .int .i64 (nR s r c 4 P), .int .i64 (nC s r c 4 P)] 23))
            have hb5 := (hb3.alloc hb3.size (.cells #[.int .i64 (nS s r c 4 P), .int .i64 (nR s r c 4 P), .int .i64 (nC s r c 4 P)] 23))
            obtain ⟨c0, c1, c2, f0, f1, f2⟩ := id hB5
            go_wp2_with fail
            refine (check_b _ _ _ _).mono ?_
            rintro e w4 ⟨rfl, hc⟩
            rw [HC.out]
            go_wp2_with fail
            exact ⟨⟨k + 1, s, r, c, by omega, by omega, by go_num, HC.out, hB5.below hc, hQ5.below hc, hb5.trans (hc.mono hb5.size)⟩, by simp [intOf]; omega⟩
        · have e2 : (1 + xs[k] % 6 == 4) = false := by simp; omega
          have hd : Below w2.heap.size w2 (w2.alloc (.cells #[.int .i64 (1 + xs[k] % 6), .int .i64 0] 37)) := ((Below.refl _ _).alloc (Nat.le_refl _) _)
          have hBd := HB1.out.below hd
          have hQd := HQ1.out.below hd
          have hbd := hb1.trans (hd.mono hb1.size)
          obtain ⟨c0, c1, c2, f0, f1, f2⟩ := hBd
          clear h4 y0
          go_wp2_with fail
          refine (next_any _ _ _ _ _ _).mono ?_
          rintro e w3 ⟨rfl, hc⟩
          have hBd : B3 _ M s r c := ⟨c0, c1, c2, f0, f1, f2⟩
          clear e2 hd
          generalize 1 + xs[k] % 6 = q at *
          have HB3 := hid (hBd.below hc)
          have hQ3 := hQd.below hc
          have hb3 := hbd.trans (hc.mono hbd.size)
          clear hc hBd hQd hbd c0 c1 c2 f0 f1 f2
          by_cases hE : nE s r c q 0 = 0
          · have e3 : (nE s r c q 0 == 0) = true := by simp [hE]
            have hch := chk_next HC.out hE
            rw [hE]
            clear hE
            generalize nS s r c q 0 = s' at *
            generalize nR s r c q 0 = r' at *
            generalize nC s r c q 0 = c' at *
            obtain ⟨c0, c1, c2, f0, f1, f2⟩ := HB3.out
            have a0 := ka c0
            have a1 := ka c1
            have a2 := ka c2
            have b0 := fa c0 f0
            have b1 := fa c1 f1
            have b2 := fa c2 f2
            have hB4 := HB3.out.set (x' := s') (y' := r') (z' := c')
            have hb4 := ((hb3.setCell (p := ⟨M, 0, none⟩) (Nat.le_of_lt hlt) (.int .i64 s')).setCell (p := ⟨M, 1, none⟩) (Nat.le_of_lt hlt) (.int .i64 r')).setCell (p := ⟨M, 2, none⟩) (Nat.le_of_lt hlt) (.int .i64 c')
            have hQ4 := hQ3.other (M := M) (a := .int .i64 s') (b := .int .i64 r') (c := .int .i64 c') (Nat.ne_of_lt hlt)
            have hB5 := hB4.alloc (.cells #[.int .i64 s', .int .i64 r', .int .i64 c'] 23)
            have hQ5 := hQ4.alloc (.cells #[.int .i64 s', .int .i64 r', .int .i64 c'] 23)
            have hb5 := hb4.alloc hb4.size (.cells #[.int .i64 s', .int .i64 r', .int .i64 c'] 23)
            have hB6 := (HB3.out.alloc (.cells #[.int .i64 s', .int .i64 r', .int .i64 c'] 23)).set (x' := s') (y' := r') (z' := c')
            have hQ6 := (hQ3.alloc (.cells #[.int .i64 s', .int .i64 r', .int .i64 c'] 23)).other (M := M) (a := .int .i64 s') (b := .int .i64 r') (c := .int .i64 c') (Nat.ne_of_lt hlt)
            have hb6 := (((hb3.alloc hb3.size (.cells #[.int .i64 s', .int .i64 r', .int .i64 c'] 23)).setCell (p := ⟨M, 0, none⟩) (Nat.le_of_lt hlt) (.int .i64 s')).setCell (p := ⟨M, 1, none⟩) (Nat.le_of_lt hlt) (.int .i64 r')).setCell (p := ⟨M, 2, none⟩) (Nat.le_of_lt hlt) (.int .i64 c')
            go_wp2_with fail
            refine (check_b _ _ _ _).mono ?_
            rintro e w4 ⟨rfl, hc⟩
            rw [hch]
            go_wp2_with fail
            refine ⟨⟨k + 1, s', r', c', by omega, by omega, by go_num, hch, ?_⟩, by simp [intOf]; omega⟩
            first
              | exact ⟨hB5.below hc, hQ5.below hc, hb5.trans (hc.mono hb5.size)⟩
              | exact ⟨hB6.below hc, hQ6.below hc, hb6.trans (hc.mono hb6.size)⟩
          · have e3 : (nE s r c q 0 == 0) = false := by simp [hE]
            clear hE
            have hB5 := (HB3.out.alloc (.cells #[.int .i64 (nS s r c q 0), .int .i64 (nR s r c q 0), .int .i64 (nC s r c q 0)] 23))
            have hQ5 := (hQ3.alloc (.cells #[.int .i64 (nS s r c q 0), .int .i64 (nR s r c q 0), .int .i64 (nC s r c q 0)] 23))
            have hb5 := (hb3.alloc hb3.size (.cells #[.int .i64 (nS s r c q 0), .int .i64 (nR s r c q 0), .int .i64 (nC s r c q 0)] 23))
            obtain ⟨c0, c1, c2, f0, f1, f2⟩ := id hB5
            go_wp2_with fail
            refine (check_b _ _ _ _).mono ?_
            rintro e w4 ⟨rfl, hc⟩
            rw [HC.out]
            go_wp2_with fail
            exact ⟨⟨k + 1, s, r, c, by omega, by omega, by go_num, HC.out, hB5.below hc, hQ5.below hc, hb5.trans (hc.mono hb5.size)⟩, by simp [intOf]; omega⟩
      · obtain rfl : k = 40 := by omega
        have e5 : (((40 : Nat) : Int) < (xs.length : Int)) := by omega
        go_wp2_with fail
        refine bodyPost_ret (v := .tuple #[.agg #[.int .i64 s, .int .i64 r, .int .i64 c], .bool true]) ?_ rfl ⟨⟨s, r, c, rfl, HC.out⟩, ?_⟩
        · obtain ⟨z0, z1, z2, _⟩ := HQ.out.set (x' := s) (y' := r) (z' := c)
          simp [results, Tryd.results14, go_sem, z0, z1, z2]
        · exact ((hb.setCell (by simp) _).setCell (by simp) _).setCell (by simp) _
    · go_wp2_with fail
      refine bodyPost_ret (v := .tuple #[.agg #[.int .i64 s, .int .i64 r, .int .i64 c], .bool true]) ?_ rfl ⟨⟨s, r, c, rfl, HC.out⟩, ?_⟩
      · obtain ⟨z0, z1, z2, _⟩ := HQ.out.set (x' := s) (y' := r) (z' := c)
        simp [results, Tryd.results14, go_sem, z0, z1, z2]
      · exact ((hb.setCell (by simp) _).setCell (by simp) _).setCell (by simp) _
end Go.Proofs.YtaklhokabnjjcaaDoor
