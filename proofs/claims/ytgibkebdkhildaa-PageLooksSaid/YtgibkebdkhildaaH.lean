import Derived.Test.YtgibkebdkhildaaF
namespace Go.Proofs.Ytgibkebdkhildaa
open Go.RowKit
set_option linter.unusedVariables false
set_option linter.unusedSimpArgs false

structure Hid (p : Prop) : Prop where
  out : p
theorem hid {p : Prop} (h : p) : Hid p := ⟨h⟩
theorem ret_bool {a b : Bool} (h : a = b) : Ending.returned (.bool a) = Ending.returned (.bool b) := by rw [h]
theorem in_any (a n : Int) (a0 : -9223372036854775808 ≤ a) (a1 : a ≤ 9223372036854775807) (n0 : -9223372036854775808 ≤ n) (n1 : n ≤ 9223372036854775807) (w : World) :
    Calls Try.prog 38 #[.int .i64 a, .int .i64 n] w fun e w' => e = .returned (.bool (decide (okB a n))) ∧ w = w' := by
  by_cases h : n < 1
  · rw [show decide (okB a n) = false from decide_eq_false (by unfold okB; omega)]
    go_enter Try.func38, Try.ntmps38
    go_wp2
    go_ret
    first | exact ⟨rfl, rfl⟩ | exact ⟨ret_bool (by simp; omega), rfl⟩
  by_cases h' : 8 < n
  · rw [show decide (okB a n) = false from decide_eq_false (by unfold okB; omega)]
    go_enter Try.func38, Try.ntmps38
    go_wp2
    go_ret
    first | exact ⟨rfl, rfl⟩ | exact ⟨ret_bool (by simp; omega), rfl⟩
  by_cases h'' : a < 0
  · rw [show decide (okB a n) = false from decide_eq_false (by unfold okB; omega)]
    go_enter Try.func38, Try.ntmps38
    go_wp2
    go_ret
    first | exact ⟨rfl, rfl⟩ | exact ⟨ret_bool (by simp; omega), rfl⟩
  by_cases h''' : 64 - n < a
  · rw [show decide (okB a n) = false from decide_eq_false (by unfold okB; omega)]
    go_enter Try.func38, Try.ntmps38
    go_wp2
    go_ret
    first | exact ⟨rfl, rfl⟩ | exact ⟨ret_bool (by simp; omega), rfl⟩
  · rw [show decide (okB a n) = true from decide_eq_true (by unfold okB; omega)]
    go_enter Try.func38, Try.ntmps38
    go_wp2
    go_ret
    first | exact ⟨rfl, rfl⟩ | exact ⟨ret_bool (by simp; omega), rfl⟩

theorem bound_of {N B x : Int} {n k : Nat} (h : N = B + x * 256 ^ k) (hB : 0 ≤ B) (hN : N < 256 ^ n) (hn : n ≤ 8) (hx : 0 ≤ x) : x ≤ 18446744073709551615 := by
  have hp : (1 : Int) ≤ 256 ^ k := by
    have : (0 : Int) < 256 ^ k := Int.pow_pos (by omega)
    omega
  have h1 : x * 1 ≤ x * 256 ^ k := Int.mul_le_mul_of_nonneg_left hp hx
  have h2 : (256 : Int) ^ n ≤ 18446744073709551616 := by
    rcases (show n = 0 ∨ n = 1 ∨ n = 2 ∨ n = 3 ∨ n = 4 ∨ n = 5 ∨ n = 6 ∨ n = 7 ∨ n = 8 by omega) with rfl | rfl | rfl | rfl | rfl | rfl | rfl | rfl | rfl <;> decide
  omega
set_option maxHeartbeats 1000000 in
theorem one_any (C : List Int) (hC : C.length = 8) (hw : ∀ x ∈ C, 0 ≤ x ∧ x ≤ 18446744073709551615) (a : Nat) (ha : a < 64) (w : World) :
    Calls Try.prog 39 #[.agg (ca C), .int .i64 a] w fun e w' => e = .returned (.int .u64 (spB C a)) ∧ Below w.heap.size w w' := by
  have hlt' : a / 8 < C.length := by omega
  have hcell : (w.alloc (.cells (ca C) 24)).cell? ⟨w.heap.size, a / 8, none⟩ = some (.int .u64 (C.getD (a / 8) 0)) := by
    rw [cell_of_row _ _ _ (ca C) 24 (0,0) (heap_alloc_new _ _), ca_get C _ (by omega)]
    simp
  have hC1 : (ca C)[a / 8]? = some (.int .u64 (C.getD (a / 8) 0)) := by
    rw [ca_get C _ (by omega)]
    simp
  obtain ⟨x0, x1⟩ := hw (C.getD (a / 8) 0) (by rw [List.getD_eq_getElem?_getD, List.getElem?_eq_getElem hlt']; exact List.getElem_mem hlt')
  have hv : spB C a = C.getD (a / 8) 0 / 256 ^ (a % 8) % 256 := rfl
  generalize spB C a = v at *
  generalize C.getD (a / 8) 0 = x at *
  have hq : ((a : Int) / 8).toNat = a / 8 := by omega
  have hq0 : (0 : Int) ≤ (a : Int) / 8 := by omega
  have hq1 : (a : Int) / 8 < 8 := by omega
  have td : (a : Int).tdiv 8 = (a : Int) / 8 := Int.tdiv_eq_ediv_of_nonneg (by omega)
  have tm : (a : Int).tmod 8 = (a : Int) % 8 := Int.tmod_eq_emod_of_nonneg (by omega)
  go_enter Try.func39, Try.ntmps39
  go_wp2_with fail
  go_loopw [5, 6] (fun v i wr => ∃ k : Nat, k ≤ a % 8 ∧ i = .int .i64 k ∧ v = .int .u64 (x / 256 ^ k) ∧ Below w.heap.size w wr) (fun _ i _ => 8 - (intOf i).toNat)
  case atStart => exact ⟨0, by omega, rfl, by simp, (Below.refl _ _).alloc (Nat.le_refl _) _⟩
  case round =>
    obtain ⟨k, hk, rfl, rfl, hb⟩ := hrel
    have y0 : 0 ≤ x / 256 ^ k := Int.ediv_nonneg x0 (Int.le_of_lt (Int.pow_pos (by omega)))
    have y1 : x / 256 ^ k ≤ 18446744073709551615 := Int.le_trans (Int.ediv_le_self _ x0) x1
    have yn : x / 256 ^ k / 256 = x / 256 ^ (k + 1) := by rw [Int.pow_succ, Int.ediv_ediv_of_nonneg (Int.le_of_lt (Int.pow_pos (by omega)))]
    have hend : k = a % 8 → v = x / 256 ^ k % 256 := fun e => by rw [hv, e]
    generalize hz : x / 256 ^ (k + 1) = z at *
    generalize x / 256 ^ k = y at *
    have ty : y.tdiv 256 = y / 256 := Int.tdiv_eq_ediv_of_nonneg y0
    have ty2 : y.tmod 256 = y % 256 := Int.tmod_eq_emod_of_nonneg y0
    by_cases hlt : k < a % 8
    · have hc : (k : Int) < (a : Int) % 8 := by omega
      go_wp2_with fail
      exact ⟨⟨k + 1, by omega, by go_num, by rw [hz], hb⟩, by simp [intOf]; omega⟩
    · have hc : ¬ (k : Int) < (a : Int) % 8 := by omega
      have he := hend (by omega)
      go_wp2_with fail
      go_ret
      exact ⟨ret_int (by rw [← hv]; exact he.symm), hb⟩

set_option maxHeartbeats 2000000 in
theorem rbytes_ok (C : List Int) (hC : C.length = 8) (hw : ∀ x ∈ C, 0 ≤ x ∧ x ≤ 18446744073709551615) (a n : Nat) (n0 : 1 ≤ n) (n1 : n ≤ 8) (a1 : a + n ≤ 64) (w : World) :
    Calls Try.prog 21 #[.agg (ca C), .int .i64 a, .int .i64 n] w fun e w' => e = .returned (.tuple #[.int .u64 (byTo C a n), .int .i64 0]) ∧ Below w.heap.size w w' := by
  have h0 := heap_alloc_new w (.cells (ca C) 24)
  have hok : decide (okB a n) = true := decide_eq_true (by unfold okB; omega)
  go_enter Try.func21, Try.ntmps21
  go_wp2_with fail
  refine (in_any _ _ (by omega) (by omega) (by omega) (by omega) _).mono ?_
  rintro e w' ⟨rfl, rfl⟩
  rw [hok]
  go_wp2_with fail
  go_loopw [8, 9] (fun v i wr => ∃ (k : Nat) (x : Int), k ≤ n ∧ i = .int .i64 ((k : Int) - 1) ∧ v = .int .u64 x ∧ 0 ≤ x ∧ byTo C a n = byTo C a k + x * 256 ^ k ∧ wr.heap[w.heap.size]? = some (.cells (ca C) 24 (0, 0)) ∧ Below w.heap.size w wr) (fun _ i _ => (intOf i + 1).toNat)
  case atStart => exact ⟨n, 0, by omega, rfl, rfl, by omega, by simp, h0, (Below.refl _ _).alloc (Nat.le_refl _) _⟩
  case round =>
    obtain ⟨k, x, hk, rfl, rfl, x0, hsum, hx1, hb⟩ := hrel
    cases k with
    | zero =>
      have hx : byTo C a n = x := by simpa [byTo] using hsum
      go_wp2_with fail
      go_ret2
      exact ⟨by rw [hx]; rfl, hb⟩
    | succ k =>
      obtain ⟨s0, s1⟩ := spB_lt C (a + k)
      have hB := byTo_lt C a k
      have hN := byTo_lt C a n
      have hstep : byTo C a n = byTo C a k + (256 * x + spB C (a + k)) * 256 ^ k := by
        rw [hsum, show byTo C a (k + 1) = byTo C a k + spB C (a + k) * 256 ^ k from rfl, Int.pow_succ]
        generalize (256 : Int) ^ k = P
        rw [Int.add_mul, Int.mul_assoc 256 x P, ← Int.mul_assoc x P 256]
        generalize x * P = Q
        generalize spB C (a + k) * P = R
        omega
      have hbound : 256 * x + spB C (a + k) ≤ 18446744073709551615 := bound_of hstep hB.1 hN.2 n1 (by omega)
      have e1 : ((a : Int) + (((k + 1 : Nat) : Int) - 1)) = ((a + k : Nat) : Int) := by omega
      generalize hSe : spB C (a + k) = S at *
      go_wp2_with (refine wpList_load_row rfl 24 _ rfl w.heap.size rfl 24 (ca C) (0, 0) _ hx1 Try.underlying24 rfl (i24 hC) ?_)
      have e2 : (a : Int) + (k : Int) = ((a + k : Nat) : Int) := by omega
      rw [e2]
      refine (one_any C hC hw (a + k) (by omega) _).mono ?_
      rintro e w2 ⟨rfl, hc⟩
      rw [hSe]
      have HS := hid hstep
      clear hstep hsum hB hN e1 e2
      go_wp2_with fail
      exact ⟨⟨k, 256 * x + S, by omega, rfl, rfl, by omega, HS.out, hbk hc hx1, hb.trans (hc.mono hb.size)⟩, by simp [intOf] <;> omega⟩

set_option maxHeartbeats 2000000 in
theorem rbytes_bad (C : List Int) (a n : Int) (a0 : -9223372036854775808 ≤ a) (a1 : a ≤ 9223372036854775807) (n0 : -9223372036854775808 ≤ n) (n1 : n ≤ 9223372036854775807) (hok : decide (okB a n) = false) (w : World) :
    Calls Try.prog 21 #[.agg (ca C), .int .i64 a, .int .i64 n] w fun e w' => e = .returned (.tuple #[.int .u64 0, .int .i64 2]) ∧ Below w.heap.size w w' := by
  go_enter Try.func21, Try.ntmps21
  go_wp2_with fail
  refine (in_any _ _ (by omega) (by omega) (by omega) (by omega) _).mono ?_
  rintro e w' ⟨rfl, rfl⟩
  rw [hok]
  go_wp2_with fail
  go_ret2
  exact ⟨rfl, (Below.refl _ _).alloc (Nat.le_refl _) _⟩
set_option maxHeartbeats 2000000 in
theorem rsigned_bad (C : List Int) (hC : C.length = 8) (a n : Int) (a0 : -9223372036854775808 ≤ a) (a1 : a ≤ 9223372036854775807) (n0 : -9223372036854775808 ≤ n) (n1 : n ≤ 9223372036854775807) (hok : decide (okB a n) = false) (w : World) :
    Calls Try.prog 23 #[.agg (ca C), .int .i64 a, .int .i64 n] w fun e w' => e = .returned (.tuple #[.int .i64 0, .int .i64 2]) ∧ Below w.heap.size w w' := by
  have h0 := heap_alloc_new w (.cells (ca C) 24)
  go_enter Try.func23, Try.ntmps23
  go_wp2_with (refine wpList_load_row rfl 24 _ rfl w.heap.size rfl 24 (ca C) (0, 0) _ h0 Try.underlying24 rfl (i24 hC) ?_)
  refine (rbytes_bad C _ _ (by omega) (by omega) (by omega) (by omega) hok _).mono ?_
  rintro e w1 ⟨rfl, hc⟩
  go_wp2_with fail
  go_ret2
  exact ⟨rfl, ((Below.refl w.heap.size w).alloc (Nat.le_refl _) _).trans (hc.mono (by simp))⟩
theorem sg_law {n : Nat} {lo b x : Int} (hn : n < 8) (l0 : 0 ≤ lo) (l1 : lo < 256 ^ n) (b0 : 0 ≤ b) (b1 : b < 256) (hx : x = lo + b * 256 ^ n) :
    (b < 128 ∨ n = 7 → sgF x (n + 1) = wrap64 x) ∧ (¬ (b < 128 ∨ n = 7) → sgF x (n + 1) = wrap64 (wrap64 x - wrap64 (2 ^ (8 * (n + 1))))) := by
  subst hx
  rcases (show n = 0 ∨ n = 1 ∨ n = 2 ∨ n = 3 ∨ n = 4 ∨ n = 5 ∨ n = 6 ∨ n = 7 by omega) with rfl | rfl | rfl | rfl | rfl | rfl | rfl | rfl <;> simp at l1 <;> simp [sgF, IntKind.wrap_u64, wrap64] <;> omega
set_option maxHeartbeats 2000000 in
theorem rsigned_ok (C : List Int) (hC : C.length = 8) (hw : ∀ x ∈ C, 0 ≤ x ∧ x ≤ 18446744073709551615) (a n : Nat) (n0 : 1 ≤ n) (n1 : n ≤ 8) (a1 : a + n ≤ 64) (w : World) :
    Calls Try.prog 23 #[.agg (ca C), .int .i64 a, .int .i64 n] w fun e w' => e = .returned (.tuple #[.int .i64 (sgF (byTo C a n) n), .int .i64 0]) ∧ Below w.heap.size w w' := by
  have h0 := heap_alloc_new w (.cells (ca C) 24)
  go_enter Try.func23, Try.ntmps23
  go_wp2_with (refine wpList_load_row rfl 24 _ rfl w.heap.size rfl 24 (ca C) (0, 0) _ h0 Try.underlying24 rfl (i24 hC) ?_)
  refine (rbytes_ok C hC hw a n n0 n1 a1 _).mono ?_
  rintro e w1 ⟨rfl, hc⟩
  have hx1 := hbk hc h0
  have hb := ((Below.refl w.heap.size w).alloc (Nat.le_refl _) (.cells (ca C) 24)).trans (hc.mono (by simp))
  obtain ⟨m, rfl⟩ : ∃ m, n = m + 1 := ⟨n - 1, by omega⟩
  have hlo := byTo_lt C a m
  have hXe : byTo C a (m + 1) = byTo C a m + spB C (a + m) * 256 ^ m := rfl
  have HX := hid hXe
  have HLO := hid hlo
  have hs := spB_lt C (a + m)
  clear hXe hlo hc h0
  generalize hX : byTo C a (m + 1) = X at *
  go_wp2_with (refine wpList_load_row rfl 24 _ rfl w.heap.size rfl 24 (ca C) (0, 0) _ hx1 Try.underlying24 rfl (i24 hC) ?_)
  rw [show ((a : Int) + ((m : Int) + 1) - 1) = ((a + m : Nat) : Int) by omega]
  refine (one_any C hC hw (a + m) (by omega) _).mono ?_
  rintro e w2 ⟨rfl, hc⟩
  have hb2 := hb.trans (hc.mono hb.size)
  have LAW := sg_law (n := m) (by omega) HLO.out.1 HLO.out.2 hs.1 hs.2 HX.out
  have HXX := hid hX
  clear HX HLO hc hb hx1 hX
  generalize byTo C a m = lo at *
  generalize spB C (a + m) = b at *
  by_cases h1 : b < 128
  · have hl := LAW.1 (Or.inl h1)
    clear LAW
    go_wp2_with fail
    go_ret2
    exact ⟨by rw [HXX.out, hl]; rfl, hb2⟩
  · by_cases h2 : m = 7
    · have hl := LAW.1 (Or.inr h2)
      clear LAW
      subst h2
      go_wp2_with fail
      go_ret2
      exact ⟨by rw [HXX.out, hl]; rfl, hb2⟩
    · have hl := LAW.2 (by omega)
      have e8 : ((m : Int) + 1 == 8) = false := by simp; omega
      clear LAW
      go_wp2_with fail
      go_ret2
      exact ⟨by rw [HXX.out, hl]; rfl, hb2⟩
end Go.Proofs.Ytgibkebdkhildaa
