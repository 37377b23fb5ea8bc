/- PagePuts (function 6): the walk. -/
import Derived.Test.YtgibkebdkhildaaP
namespace Go.Proofs.Ytgibkebdkhildaa
open Go.RowKit
set_option linter.unusedVariables false
set_option linter.unusedSimpArgs false

theorem load_at_g {P : Program} {ops : Array Oper} {rest : List Oper} {o : Oper} {a : Act} {w : World} {Q : Exit → Act → World → Prop} (N : Tmp) (hd : o.dst = some N) (hw : Region.wanted o (yielded ops a.tmps) = true) (ty : TypeId) (x : Operand) (ho : o.op = .load ty x)
    (g : Nat) (hx : a.eval x = .pointer (some ⟨g, 0, none⟩)) (t : TypeId) (cs : Array Value) (fr : Nat × Nat) (n : Nat) (el : TypeId) (hg : w.heap[g]? = some (.cells cs t fr))
    (hu : P.underlying ty = some (.array n el)) (hi : (P.info? ty).map (·.size) = some cs.size)
    (h : wpList P ops Q rest (a.put o.dst (.agg cs)) w) : wpList P ops Q (o :: rest) a w := wpList_load_row_g hw ty x ho g hx t cs fr n el hg hu hi h
set_option maxRecDepth 20000 in
set_option maxHeartbeats 8000000 in
theorem puts_core (C D : List Int) (hC : C.length = 8) (hD : D.length = 8) (at_ : Int) (A N : Nat) (n0 : 1 ≤ N) (n1 : N ≤ 8) (ha : A + N ≤ 64) (x0 : -9223372036854775808 ≤ at_) (x1 : at_ ≤ 9223372036854775807) (v X Z : Int) (v0 : 0 ≤ v) (v1 : v ≤ 18446744073709551615) (P Q : Nat → Int)
    (ht0 : -9223372036854775808 ≤ at_.tdiv 64) (ht1 : at_.tdiv 64 ≤ 9223372036854775807) (hn : at_.tdiv 64 % 8 = (N : Int) - 1) (hk : at_ % (65 - (N : Int)) = (A : Int))
    (HPUT : ∀ W, Calls Try.prog 24 #[.agg (ca C), .int .i64 (A : Int), .int .i64 (N : Int), .int .u64 v] W fun e w' => e = .returned (.tuple #[.agg (ca D), .int .i64 0]) ∧ Below W.heap.size W w')
    (HBC : ∀ j : Nat, j < 64 → ∀ W, Calls Try.prog 20 #[.agg (ca C), .int .i64 (j : Int), .int .i64 1] W fun e w' => e = .returned (.tuple #[.int .u64 (P j), .int .i64 0]) ∧ Below W.heap.size W w')
    (HBD : ∀ j : Nat, j < 64 → ∀ W, Calls Try.prog 20 #[.agg (ca D), .int .i64 (j : Int), .int .i64 1] W fun e w' => e = .returned (.tuple #[.int .u64 (Q j), .int .i64 0]) ∧ Below W.heap.size W w')
    (hQ : ∀ j : Nat, j < 64 → Q j = if A ≤ j ∧ j < A + N then v / 2 ^ (8 * (j - A)) % 256 else P j)
    (HBX : ∀ W, Calls Try.prog 20 #[.agg (ca D), .int .i64 (A : Int), .int .i64 (N : Int)] W fun e w' => e = .returned (.tuple #[.int .u64 X, .int .i64 0]) ∧ Below W.heap.size W w')
    (HPUX : ∀ W, Calls Try.prog 24 #[.agg (ca D), .int .i64 (A : Int), .int .i64 (N : Int), .int .u64 X] W fun e w' => e = .returned (.tuple #[.agg (ca D), .int .i64 0]) ∧ Below W.heap.size W w')
    (HX : X = v % 256 ^ N) (HZ : IntKind.u64.wrap (IntKind.u64.wrap Z * 2 ^ (64 - 8 * N)) = X * 2 ^ (64 - 8 * N))
    (HSG : ∀ W, Calls Try.prog 22 #[.agg (ca D), .int .i64 (A : Int), .int .i64 (N : Int)] W fun e w' => e = .returned (.tuple #[.int .i64 Z, .int .i64 0]) ∧ Below W.heap.size W w') (w : World) :
    Calls Try.prog 6 #[.agg (ca C), .int .u64 v, .int .i64 at_] w fun e w' => e = .returned (.bool true) ∧ Below w.heap.size w w' := by
  have HM1 : ∀ W, Calls Try.prog 16 #[.int .i64 (at_.tdiv 64), .int .i64 8] W fun e w' => e = .returned (.int .i64 ((N : Int) - 1)) ∧ W = w' := fun W => by rw [← hn]; exact mod_any _ 8 (by omega) (by omega) (by omega) (by omega) W
  have HM2 : ∀ W, Calls Try.prog 16 #[.int .i64 at_, .int .i64 (65 - (N : Int))] W fun e w' => e = .returned (.int .i64 (A : Int)) ∧ W = w' := fun W => by rw [← hk]; exact mod_any _ _ (by omega) (by omega) (by omega) (by omega) W
  have KM1 := hid HM1
  have KM2 := hid HM2
  have KPUT := hid HPUT
  have KBC := hid HBC
  have KBD := hid HBD
  have KQ := hid hQ
  have KBX := hid HBX
  have KPUX := hid HPUX
  have KSG := hid HSG
  have KX := hid HX
  have KZ := hid HZ
  have hb0 := (Below.refl w.heap.size w).alloc (Nat.le_refl _) (.cells (ca C) 24)
  have hx0 := heap_alloc_new w (.cells (ca C) 24)
  have t64 : IntKind.i64.wrap (at_.tdiv 64) = at_.tdiv 64 := wr64 (by omega) (by omega)
  clear ht0 ht1 HM1 HM2 HPUT HBC HBD hQ HBX HPUX HSG hn hk HX HZ
  go_enter Try.func6, Try.ntmps6
  go_wp2_with fail
  refine (KM1.out _).mono ?_
  rintro e w' ⟨rfl, rfl⟩
  have eN : (1 : Int) + ((N : Int) - 1) = (N : Int) := by omega
  go_wp2_with fail
  refine (KM2.out _).mono ?_
  rintro e w' ⟨rfl, rfl⟩
  go_wp2_with (refine wpList_load_row rfl 24 _ rfl w.heap.size rfl 24 (ca C) (0, 0) _ hx0 Try.underlying24 rfl (i24 hC) ?_)
  refine (KPUT.out _).mono ?_
  rintro e w1 ⟨rfl, hc⟩
  have hx1 := hbk hc hx0
  have hb1 := hb0.trans (hc.mono hb0.size)
  clear hc hx0 hb0
  have hy := heap_alloc_new w1 (.cells (ca D) 24)
  have hblt : w.heap.size < w1.heap.size := (Array.getElem?_eq_some_iff.1 hx1).1
  have hx2 := al hx1 (.cells (ca D) 24)
  have hb2 := hb1.alloc hb1.size (.cells (ca D) 24)
  clear hx1 hb1
  go_wp2_with (refine wpList_store_row rfl 24 _ _ rfl w1.heap.size (ca D) rfl rfl 24 _ (heap_alloc_new _ _) (i24 hD) (by rw [ca_size, hD]; rfl) (ca_one _) ?_; rw [World.setRow_alloc_new])
  generalize hW2 : w1.alloc _ = W2 at hx2 hy hb2 ⊢
  generalize hB1 : w1.heap.size = B1 at *
  clear hW2 hB1
  go_loopw [11] (fun i wr => ∃ k : Nat, k ≤ 64 ∧ i = .int .i64 k ∧ wr.heap[w.heap.size]? = some (.cells (ca C) 24 (0, 0)) ∧ wr.heap[B1]? = some (.cells (ca D) 24 (0, 0)) ∧ Below w.heap.size w wr) (fun i _ => 64 - (intOf i).toNat)
  case atStart => exact ⟨0, by omega, rfl, hx2, hy, hb2⟩
  case round =>
    clear hx2 hy hb2
    obtain ⟨k, hk, rfl, hr, hz, hb⟩ := hrel
    by_cases hlt : k < 64
    · have i0 : (0 : Int) ≤ (k : Int) := by omega
      have i1 : (k : Int) < 64 := by omega
      go_wp2_with (refine wpList_load_row rfl 24 _ rfl w.heap.size rfl 24 (ca C) (0, 0) _ hr Try.underlying24 rfl (i24 hC) ?_)
      refine (KBC.out k hlt _).mono ?_
      rintro e w3 ⟨rfl, hc⟩
      have hr3 := hbk hc hr
      have hz3 := hbk hc hz
      have hb3 := hb.trans (hc.mono hb.size)
      clear hc hr hz hb
      go_wp2_with (refine wpList_load_row rfl 24 _ rfl B1 rfl 24 (ca D) (0, 0) _ hz3 Try.underlying24 rfl (i24 hD) ?_)
      refine (KBD.out k hlt _).mono ?_
      rintro e w4 ⟨rfl, hc⟩
      have hr4 := hbk hc hr3
      have hz4 := hbk hc hz3
      have hb4 := hb3.trans (hc.mono hb3.size)
      clear hc hr3 hz3 hb3
      have q := KQ.out k hlt
      by_cases hin : A ≤ k ∧ k < A + N
      · rw [if_pos hin] at q
        have a1 : (A : Int) ≤ (k : Int) := by omega
        have a2 : (k : Int) < (A : Int) + (N : Int) := by omega
        have a3 : ¬ (k : Int) < (A : Int) := by omega
        have a4 : ¬ (A : Int) + (N : Int) ≤ (k : Int) := by omega
        have s0 : (0 : Int) ≤ (k : Int) - (A : Int) := by omega
        have s1 : (k : Int) - (A : Int) < 8 := by omega
        have s2 : (8 * ((k : Int) - (A : Int))).toNat = 8 * (k - A) := by omega
        have s3 : ((k : Int) - (A : Int)).toNat = k - A := by omega
        have tq : (v / 2 ^ (8 * (k - A)) % 256 != (v / 2 ^ (8 * (k - A))).tmod 256) = false := by
          rw [Int.tmod_eq_emod_of_nonneg (Int.ediv_nonneg v0 (Int.le_of_lt (Int.pow_pos (by omega))))]
          simp
        rw [q]
        clear q hin
        go_wp2_with fail
        all_goals refine ⟨⟨k + 1, by omega, by go_num, hr4, hz4, hb4⟩, by simp [intOf]; omega⟩
      · rw [if_neg hin] at q
        rw [q]
        clear q
        by_cases hlo : k < A
        · have a1 : (k : Int) < (A : Int) := by omega
          have a2 : (k : Int) < (A : Int) + (N : Int) := by omega
          have a3 : ¬ (A : Int) ≤ (k : Int) := by omega
          have a4 : ¬ (A : Int) + (N : Int) ≤ (k : Int) := by omega
          clear hin hlo
          go_wp2_with fail
          all_goals refine ⟨⟨k + 1, by omega, by go_num, hr4, hz4, hb4⟩, by simp [intOf]; omega⟩
        · have a1 : ¬ (k : Int) < (A : Int) := by omega
          have a2 : ¬ (k : Int) < (A : Int) + (N : Int) := by omega
          have a3 : (A : Int) ≤ (k : Int) := by omega
          have a4 : (A : Int) + (N : Int) ≤ (k : Int) := by omega
          clear hin hlo
          go_wp2_with fail
          all_goals refine ⟨⟨k + 1, by omega, by go_num, hr4, hz4, hb4⟩, by simp [intOf]; omega⟩
    · obtain rfl : k = 64 := by omega
      clear hk hlt hr
      have HEQ : ∀ W, (Op.equalIn 10000 24 (.agg (ca D)) (.agg (ca D))).run Try.prog W = .ok true W := fun W => by simpa using run_eq24 D D hD hD W
      go_wp2_with (refine wpList_load_row rfl 24 _ rfl B1 rfl 24 (ca D) (0, 0) _ hz Try.underlying24 rfl (i24 hD) ?_)
      refine (KBX.out _).mono ?_
      rintro e w3 ⟨rfl, hc⟩
      have hz3 := hbk hc hz
      have hb3 := hb.trans (hc.mono hb.size)
      clear hc hz hb
      go_wp2_with (refine wpList_load_row rfl 24 _ rfl B1 rfl 24 (ca D) (0, 0) _ hz3 Try.underlying24 rfl (i24 hD) ?_)
      refine (KPUX.out _).mono ?_
      rintro e w4 ⟨rfl, hc⟩
      have hz4 := hbk hc hz3
      have hb4 := hb3.trans (hc.mono hb3.size)
      clear hc hz3 hb3
      have hv4 := heap_alloc_new w4 (.cells (ca D) 24)
      have hz5 := al hz4 (.cells (ca D) 24)
      have hb5 := hb4.alloc hb4.size (.cells (ca D) 24)
      clear hz4 hb4
      go_wp2_with (first
        | (refine wpList_store_row rfl 24 _ _ rfl w4.heap.size (ca D) rfl rfl 24 _ (heap_alloc_new _ _) (i24 hD) (by rw [ca_size, hD]; rfl) (ca_one _) ?_; rw [World.setRow_alloc_new])
        | (refine wpList_load_row rfl 24 _ rfl B1 rfl 24 (ca D) (0, 0) _ hz5 Try.underlying24 rfl (i24 hD) ?_))
      refine (KSG.out _).mono ?_
      rintro e w6 ⟨rfl, hc⟩
      have hz6 := hbk hc hz5
      have hv6 := hbk hc hv4
      have hb6 := hb5.trans (hc.mono hb5.size)
      clear hc hz5 hv4 hb5
      have tv : ∀ d : Int, v.tmod d = v % d := fun d => Int.tmod_eq_emod_of_nonneg v0
      rcases (show N = 1 ∨ N = 2 ∨ N = 3 ∨ N = 4 ∨ N = 5 ∨ N = 6 ∨ N = 7 ∨ N = 8 by omega) with rfl | rfl | rfl | rfl | rfl | rfl | rfl | rfl
      · have hX : X = v % 256 := by have := KX.out; simpa using this
        have hZ : IntKind.u64.wrap (IntKind.u64.wrap Z * 72057594037927936) = v % 256 * 72057594037927936 := by have := KZ.out; rw [hX] at this; simpa using this
        have e1 : (v % 256 == v.tmod 256) = true := by rw [tv]; simp
        clear KBX KPUX KSG KBC KBD KQ KPUT KM1 KM2 KX KZ hblt tv
        subst hX
        go_wp2_with (first
          | (refine load_at_g 135 rfl rfl 24 _ rfl w4.heap.size rfl 24 (ca D) (0, 0) 8 22 hv6 Try.underlying24 (i24 hD) ?_)
          | (refine load_at_g 136 rfl rfl 24 _ rfl B1 rfl 24 (ca D) (0, 0) 8 22 hz6 Try.underlying24 (i24 hD) ?_))
        refine (awake_any _).mono ?_
        rintro e w7 ⟨rfl, hc⟩
        go_wp2_with fail
        go_ret
        exact ⟨rfl, hb6.trans (hc.mono hb6.size)⟩
      · have hX : X = v % 65536 := by have := KX.out; simpa using this
        have hZ : IntKind.u64.wrap (IntKind.u64.wrap Z * 281474976710656) = v % 65536 * 281474976710656 := by have := KZ.out; rw [hX] at this; simpa using this
        have e1 : (v % 65536 == v.tmod 65536) = true := by rw [tv]; simp
        clear KBX KPUX KSG KBC KBD KQ KPUT KM1 KM2 KX KZ hblt tv
        subst hX
        go_wp2_with (first
          | (refine load_at_g 135 rfl rfl 24 _ rfl w4.heap.size rfl 24 (ca D) (0, 0) 8 22 hv6 Try.underlying24 (i24 hD) ?_)
          | (refine load_at_g 136 rfl rfl 24 _ rfl B1 rfl 24 (ca D) (0, 0) 8 22 hz6 Try.underlying24 (i24 hD) ?_))
        refine (awake_any _).mono ?_
        rintro e w7 ⟨rfl, hc⟩
        go_wp2_with fail
        go_ret
        exact ⟨rfl, hb6.trans (hc.mono hb6.size)⟩
      · have hX : X = v % 16777216 := by have := KX.out; simpa using this
        have hZ : IntKind.u64.wrap (IntKind.u64.wrap Z * 1099511627776) = v % 16777216 * 1099511627776 := by have := KZ.out; rw [hX] at this; simpa using this
        have e1 : (v % 16777216 == v.tmod 16777216) = true := by rw [tv]; simp
        clear KBX KPUX KSG KBC KBD KQ KPUT KM1 KM2 KX KZ hblt tv
        subst hX
        go_wp2_with (first
          | (refine load_at_g 135 rfl rfl 24 _ rfl w4.heap.size rfl 24 (ca D) (0, 0) 8 22 hv6 Try.underlying24 (i24 hD) ?_)
          | (refine load_at_g 136 rfl rfl 24 _ rfl B1 rfl 24 (ca D) (0, 0) 8 22 hz6 Try.underlying24 (i24 hD) ?_))
        refine (awake_any _).mono ?_
        rintro e w7 ⟨rfl, hc⟩
        go_wp2_with fail
        go_ret
        exact ⟨rfl, hb6.trans (hc.mono hb6.size)⟩
      · have hX : X = v % 4294967296 := by have := KX.out; simpa using this
        have hZ : IntKind.u64.wrap (IntKind.u64.wrap Z * 4294967296) = v % 4294967296 * 4294967296 := by have := KZ.out; rw [hX] at this; simpa using this
        have e1 : (v % 4294967296 == v.tmod 4294967296) = true := by rw [tv]; simp
        clear KBX KPUX KSG KBC KBD KQ KPUT KM1 KM2 KX KZ hblt tv
        subst hX
        go_wp2_with (first
          | (refine load_at_g 135 rfl rfl 24 _ rfl w4.heap.size rfl 24 (ca D) (0, 0) 8 22 hv6 Try.underlying24 (i24 hD) ?_)
          | (refine load_at_g 136 rfl rfl 24 _ rfl B1 rfl 24 (ca D) (0, 0) 8 22 hz6 Try.underlying24 (i24 hD) ?_))
        refine (awake_any _).mono ?_
        rintro e w7 ⟨rfl, hc⟩
        go_wp2_with fail
        go_ret
        exact ⟨rfl, hb6.trans (hc.mono hb6.size)⟩
      · have hX : X = v % 1099511627776 := by have := KX.out; simpa using this
        have hZ : IntKind.u64.wrap (IntKind.u64.wrap Z * 16777216) = v % 1099511627776 * 16777216 := by have := KZ.out; rw [hX] at this; simpa using this
        have e1 : (v % 1099511627776 == v.tmod 1099511627776) = true := by rw [tv]; simp
        clear KBX KPUX KSG KBC KBD KQ KPUT KM1 KM2 KX KZ hblt tv
        subst hX
        go_wp2_with (first
          | (refine load_at_g 135 rfl rfl 24 _ rfl w4.heap.size rfl 24 (ca D) (0, 0) 8 22 hv6 Try.underlying24 (i24 hD) ?_)
          | (refine load_at_g 136 rfl rfl 24 _ rfl B1 rfl 24 (ca D) (0, 0) 8 22 hz6 Try.underlying24 (i24 hD) ?_))
        refine (awake_any _).mono ?_
        rintro e w7 ⟨rfl, hc⟩
        go_wp2_with fail
        go_ret
        exact ⟨rfl, hb6.trans (hc.mono hb6.size)⟩
      · have hX : X = v % 281474976710656 := by have := KX.out; simpa using this
        have hZ : IntKind.u64.wrap (IntKind.u64.wrap Z * 65536) = v % 281474976710656 * 65536 := by have := KZ.out; rw [hX] at this; simpa using this
        have e1 : (v % 281474976710656 == v.tmod 281474976710656) = true := by rw [tv]; simp
        clear KBX KPUX KSG KBC KBD KQ KPUT KM1 KM2 KX KZ hblt tv
        subst hX
        go_wp2_with (first
          | (refine load_at_g 135 rfl rfl 24 _ rfl w4.heap.size rfl 24 (ca D) (0, 0) 8 22 hv6 Try.underlying24 (i24 hD) ?_)
          | (refine load_at_g 136 rfl rfl 24 _ rfl B1 rfl 24 (ca D) (0, 0) 8 22 hz6 Try.underlying24 (i24 hD) ?_))
        refine (awake_any _).mono ?_
        rintro e w7 ⟨rfl, hc⟩
        go_wp2_with fail
        go_ret
        exact ⟨rfl, hb6.trans (hc.mono hb6.size)⟩
      · have hX : X = v % 72057594037927936 := by have := KX.out; simpa using this
        have hZ : IntKind.u64.wrap (IntKind.u64.wrap Z * 256) = v % 72057594037927936 * 256 := by have := KZ.out; rw [hX] at this; simpa using this
        have e1 : (v % 72057594037927936 == v.tmod 72057594037927936) = true := by rw [tv]; simp
        clear KBX KPUX KSG KBC KBD KQ KPUT KM1 KM2 KX KZ hblt tv
        subst hX
        go_wp2_with (first
          | (refine load_at_g 135 rfl rfl 24 _ rfl w4.heap.size rfl 24 (ca D) (0, 0) 8 22 hv6 Try.underlying24 (i24 hD) ?_)
          | (refine load_at_g 136 rfl rfl 24 _ rfl B1 rfl 24 (ca D) (0, 0) 8 22 hz6 Try.underlying24 (i24 hD) ?_))
        refine (awake_any _).mono ?_
        rintro e w7 ⟨rfl, hc⟩
        go_wp2_with fail
        go_ret
        exact ⟨rfl, hb6.trans (hc.mono hb6.size)⟩
      · have hX : X = v := by have := KX.out; rw [this]; exact Int.emod_eq_of_lt v0 (by omega)
        have hZ : IntKind.u64.wrap Z = v := by
          have := KZ.out
          rw [hX] at this
          simp only [Nat.reduceMul, Nat.reduceSub, Int.pow_zero, Int.mul_one, IntKind.wrap_u64] at this ⊢
          omega
        clear KBX KPUX KSG KBC KBD KQ KPUT KM1 KM2 KX KZ hblt tv
        subst hX
        go_wp2_with (first
          | (refine load_at_g 135 rfl rfl 24 _ rfl w4.heap.size rfl 24 (ca D) (0, 0) 8 22 hv6 Try.underlying24 (i24 hD) ?_)
          | (refine load_at_g 136 rfl rfl 24 _ rfl B1 rfl 24 (ca D) (0, 0) 8 22 hz6 Try.underlying24 (i24 hD) ?_))
        refine (awake_any _).mono ?_
        rintro e w7 ⟨rfl, hc⟩
        go_wp2_with fail
        go_ret
        exact ⟨rfl, hb6.trans (hc.mono hb6.size)⟩
end Go.Proofs.Ytgibkebdkhildaa
