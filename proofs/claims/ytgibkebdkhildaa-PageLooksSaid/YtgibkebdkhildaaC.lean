import Derived.Test.YtgibkebdkhildaaB
import Derived.Laws.Bits64b
namespace Go.Proofs.Ytgibkebdkhildaa
open Go.RowKit
set_option linter.unusedVariables false
set_option linter.unusedSimpArgs false

theorem ret_int {k : IntKind} {a b : Int} (h : a = b) : Ending.returned (.int k a) = Ending.returned (.int k b) := by rw [h]
def okB (a n : Int) : Prop := 1 ≤ n ∧ n ≤ 8 ∧ 0 ≤ a ∧ a ≤ 64 - n
instance (a n : Int) : Decidable (okB a n) := by unfold okB; exact inferInstance
theorem wrong_any (a n : Int) (a0 : -9223372036854775808 ≤ a) (a1 : a ≤ 9223372036854775807) (n0 : -9223372036854775808 ≤ n) (n1 : n ≤ 9223372036854775807) (w : World) :
    Calls Try.prog 36 #[.int .i64 a, .int .i64 n] w fun e w' => e = .returned (.bool (!decide (okB a n))) ∧ w = w' := by
  by_cases h1 : n < 1
  · rw [show decide (okB a n) = false from decide_eq_false (by unfold okB; omega)]
    go_enter Try.func36, Try.ntmps36
    go_wp2
    go_ret
    exact ⟨rfl, rfl⟩
  by_cases h2 : 8 < n
  · rw [show decide (okB a n) = false from decide_eq_false (by unfold okB; omega)]
    go_enter Try.func36, Try.ntmps36
    go_wp2
    go_ret
    exact ⟨rfl, rfl⟩
  by_cases h3 : a < 0
  · rw [show decide (okB a n) = false from decide_eq_false (by unfold okB; omega)]
    go_enter Try.func36, Try.ntmps36
    go_wp2
    go_ret
    exact ⟨rfl, rfl⟩
  by_cases h4 : 64 - n < a
  · rw [show decide (okB a n) = false from decide_eq_false (by unfold okB; omega)]
    go_enter Try.func36, Try.ntmps36
    go_wp2
    go_ret
    exact ⟨rfl, rfl⟩
  · rw [show decide (okB a n) = true from decide_eq_true (by unfold okB; omega)]
    go_enter Try.func36, Try.ntmps36
    go_wp2
    go_ret
    exact ⟨rfl, rfl⟩

def byTo (C : List Int) (a : Nat) : Nat → Int
  | 0 => 0
  | k + 1 => byTo C a k + spB C (a + k) * 256 ^ k

theorem or_put {X S : Int} {k : Nat} (hk : k < 8) (x0 : 0 ≤ X) (x1 : X < 256 ^ k) (s0 : 0 ≤ S) (s1 : S < 256) : bits BinOp.or .u64 X (IntKind.u64.wrap (S * 2 ^ (8 * k))) = X + S * 256 ^ k := by
  obtain ⟨x, rfl⟩ := Int.eq_ofNat_of_zero_le x0
  obtain ⟨s, rfl⟩ := Int.eq_ofNat_of_zero_le s0
  rw [pw] at x1
  have hx : x < 2 ^ (8 * k) := by exact_mod_cast x1
  have hs : s < 256 := by omega
  have hp : 2 ^ (8 * k) ≤ 2 ^ 56 := Nat.pow_le_pow_right (by omega) (by omega)
  have hm : s * 2 ^ (8 * k) ≤ 255 * 2 ^ 56 := Nat.mul_le_mul (by omega) hp
  have hor : x ||| s * 2 ^ (8 * k) = x + s * 2 ^ (8 * k) := by
    have := Nat.two_pow_add_eq_or_of_lt hx s
    rw [Nat.or_comm, Nat.mul_comm s, ← this]
    omega
  have hw : IntKind.u64.wrap ((s : Int) * 2 ^ (8 * k)) = ((s * 2 ^ (8 * k) : Nat) : Int) := by
    have : ((s : Int) * 2 ^ (8 * k)) = ((s * 2 ^ (8 * k) : Nat) : Int) := by push_cast; rfl
    rw [this]
    simp [IntKind.wrap, IntKind.signed, IntKind.bits]
    omega
  rw [hw, pw, bits_or_u64_nat x (s * 2 ^ (8 * k)) (by omega) (by omega), hor]
  push_cast
  rfl
def sgF (x : Int) (n : Nat) : Int := wrap64 (IntKind.u64.wrap (x * 2 ^ (64 - 8 * n))) / 2 ^ (64 - 8 * n)
def rotF (v : Int) (k : Nat) : Int := v * 2 ^ k % 18446744073709551616 + v / 2 ^ (64 - k)
theorem spB_lt (C : List Int) (j : Nat) : 0 ≤ spB C j ∧ spB C j < 256 := ⟨Int.emod_nonneg _ (by omega), Int.emod_lt_of_pos _ (by omega)⟩
theorem byTo_lt (C : List Int) (a k : Nat) : 0 ≤ byTo C a k ∧ byTo C a k < 256 ^ k := by
  induction k with
  | zero => simp [byTo]
  | succ k ih =>
    obtain ⟨s0, s1⟩ := spB_lt C (a + k)
    have hp : (0 : Int) < 256 ^ k := Int.pow_pos (by omega)
    have e1 : spB C (a + k) * 256 ^ k ≤ 255 * 256 ^ k := Int.mul_le_mul_of_nonneg_right (by omega) (Int.le_of_lt hp)
    have e0 : 0 ≤ spB C (a + k) * 256 ^ k := Int.mul_nonneg s0 (Int.le_of_lt hp)
    unfold byTo
    rw [Int.pow_succ]
    omega
set_option maxHeartbeats 2000000 in
theorem bytes_ok (C : List Int) (hC : C.length = 8) (hw : ∀ x ∈ C, 0 ≤ x ∧ x ≤ 18446744073709551615) (a n : Nat) (n0 : 1 ≤ n) (n1 : n ≤ 8) (a1 : a + n ≤ 64) (w : World) :
    Calls Try.prog 20 #[.agg (ca C), .int .i64 a, .int .i64 n] w fun e w' => e = .returned (.tuple #[.int .u64 (byTo C a n), .int .i64 0]) ∧ Below w.heap.size w w' := by
  have h0 := heap_alloc_new w (.cells (ca C) 24)
  have hsz := ca_size C
  have hl : (spF C).length = 64 := by simp [spF]
  have hok : decide (okB a n) = true := decide_eq_true (by unfold okB; omega)
  go_enter Try.func20, Try.ntmps20
  go_wp2_with fail
  refine (wrong_any _ _ (by omega) (by omega) (by omega) (by omega) _).mono ?_
  rintro e w' ⟨rfl, rfl⟩
  rw [hok]
  go_wp2_with (refine wpList_load_row rfl 24 _ rfl w.heap.size rfl 24 (ca C) (0, 0) _ h0 Try.underlying24 rfl (i24 hC) ?_)
  refine (spread_any C hC hw _).mono ?_
  rintro e w1 ⟨rfl, hc⟩
  have hb := ((Below.refl w.heap.size w).alloc (Nat.le_refl _) (.cells (ca C) 24)).trans (hc.mono (by simp))
  go_wp2_with (refine wpList_store_row rfl 58 _ _ rfl w1.heap.size (ca (spF C)) rfl rfl 58 _ (heap_alloc_new w1 _) (i58 hl) (by rw [ca_size, hl]; rfl) (ca_one _) ?_)
  rw [World.setRow_alloc_new]
  have hr := heap_alloc_new w1 (.cells (ca (spF C)) 58)
  have hb1 := hb.alloc hb.size (.cells (ca (spF C)) 58)
  generalize w1.alloc (.cells (ca (spF C)) 58) = W at *
  generalize w1.heap.size = N at *
  go_loopw [9, 17] (fun v i wr => ∃ k : Nat, k ≤ n ∧ i = .int .i64 k ∧ v = .int .u64 (byTo C a k) ∧ wr.heap[N]? = some (.cells (ca (spF C)) 58 (0, 0)) ∧ Below w.heap.size w wr) (fun _ i _ => n - (intOf i).toNat)
  case atStart => exact ⟨0, by omega, rfl, rfl, hr, hb1⟩
  case round =>
    clear hr hb hb1 hc
    obtain ⟨k, hk, rfl, rfl, hr, hb⟩ := hrel
    by_cases hlt : k < n
    · have hidx : ((a : Int) + (k : Int)).toNat = a + k := by omega
      have hn : a + k < 64 := by omega
      have hcell : wr.cell? ⟨N, a + k, none⟩ = some (.int .u64 (spB C (a + k))) := by
        rw [cell_of_row _ _ _ _ _ _ hr]
        simp [ca, spF, hn]
      have b0 := byTo_lt C a k
      have s0 := spB_lt C (a + k)
      have hS : byTo C a (k + 1) = byTo C a k + spB C (a + k) * 256 ^ k := rfl
      generalize hY : byTo C a (k + 1) = Y at *
      generalize byTo C a k = X at *
      generalize spB C (a + k) = S at *
      go_wp2_with fail
      refine ⟨⟨k + 1, by omega, by go_num, ?_, hr, hb⟩, by simp [intOf]; omega⟩
      rw [hY, or_put (by omega) b0.1 b0.2 s0.1 s0.2, ← hS]
    · obtain rfl : k = n := by omega
      go_wp2_with fail
      go_ret2
      exact ⟨rfl, hb⟩

set_option maxHeartbeats 2000000 in
theorem bytes_bad (C : List Int) (a n : Int) (a0 : -9223372036854775808 ≤ a) (a1 : a ≤ 9223372036854775807) (n0 : -9223372036854775808 ≤ n) (n1 : n ≤ 9223372036854775807) (hok : decide (okB a n) = false) (w : World) :
    Calls Try.prog 20 #[.agg (ca C), .int .i64 a, .int .i64 n] w fun e w' => e = .returned (.tuple #[.int .u64 0, .int .i64 2]) ∧ Below w.heap.size w w' := by
  go_enter Try.func20, Try.ntmps20
  go_wp2_with fail
  refine (wrong_any _ _ (by omega) (by omega) (by omega) (by omega) _).mono ?_
  rintro e w' ⟨rfl, rfl⟩
  rw [hok]
  go_wp2_with fail
  go_ret2
  exact ⟨rfl, (Below.refl _ _).alloc (Nat.le_refl _) _⟩
set_option maxHeartbeats 2000000 in
theorem signed_bad (C : List Int) (hC : C.length = 8) (a n : Int) (a0 : -9223372036854775808 ≤ a) (a1 : a ≤ 9223372036854775807) (n0 : -9223372036854775808 ≤ n) (n1 : n ≤ 9223372036854775807) (hok : decide (okB a n) = false) (w : World) :
    Calls Try.prog 22 #[.agg (ca C), .int .i64 a, .int .i64 n] w fun e w' => e = .returned (.tuple #[.int .i64 0, .int .i64 2]) ∧ Below w.heap.size w w' := by
  have h0 := heap_alloc_new w (.cells (ca C) 24)
  go_enter Try.func22, Try.ntmps22
  go_wp2_with (refine wpList_load_row rfl 24 _ rfl w.heap.size rfl 24 (ca C) (0, 0) _ h0 Try.underlying24 rfl (i24 hC) ?_)
  refine (bytes_bad C _ _ (by omega) (by omega) (by omega) (by omega) hok _).mono ?_
  rintro e w1 ⟨rfl, hc⟩
  go_wp2_with fail
  go_ret2
  exact ⟨rfl, ((Below.refl w.heap.size w).alloc (Nat.le_refl _) _).trans (hc.mono (by simp))⟩
set_option maxHeartbeats 2000000 in
theorem signed_ok (C : List Int) (hC : C.length = 8) (hw : ∀ x ∈ C, 0 ≤ x ∧ x ≤ 18446744073709551615) (a n : Nat) (n0 : 1 ≤ n) (n1 : n ≤ 8) (a1 : a + n ≤ 64) (w : World) :
    Calls Try.prog 22 #[.agg (ca C), .int .i64 a, .int .i64 n] w fun e w' => e = .returned (.tuple #[.int .i64 (sgF (byTo C a n) n), .int .i64 0]) ∧ Below w.heap.size w w' := by
  have h0 := heap_alloc_new w (.cells (ca C) 24)
  go_enter Try.func22, Try.ntmps22
  go_wp2_with (refine wpList_load_row rfl 24 _ rfl w.heap.size rfl 24 (ca C) (0, 0) _ h0 Try.underlying24 rfl (i24 hC) ?_)
  refine (bytes_ok C hC hw a n n0 n1 a1 _).mono ?_
  rintro e w1 ⟨rfl, hc⟩
  have hX := byTo_lt C a n
  generalize hXe : byTo C a n = X at *
  go_wp2_with fail
  go_ret2
  rw [hXe]
  exact ⟨rfl, ((Below.refl w.heap.size w).alloc (Nat.le_refl _) _).trans (hc.mono (by simp))⟩

theorem or_rot {v : Int} (v0 : 0 ≤ v) (v1 : v ≤ 18446744073709551615) {k : Nat} (hk : k < 64) : bits BinOp.or .u64 (IntKind.u64.wrap (v * 2 ^ k)) (v / 2 ^ (64 - k)) = rotF v k := by
  obtain ⟨x, rfl⟩ := Int.eq_ofNat_of_zero_le v0
  have hx : x < 2 ^ 64 := by omega
  have hpk : (2 : Nat) ^ 64 = 2 ^ (64 - k) * 2 ^ k := by rw [← Nat.pow_add]; congr 1; omega
  have e1 : IntKind.u64.wrap ((x : Int) * 2 ^ k) = ((x * 2 ^ k % 2 ^ 64 : Nat) : Int) := by
    rw [IntKind.wrap_u64, show (2 : Nat) ^ 64 = 18446744073709551616 from rfl, Int.natCast_emod, Int.natCast_mul, Int.natCast_pow]
    rfl
  have e2 : (x : Int) / 2 ^ (64 - k) = ((x / 2 ^ (64 - k) : Nat) : Int) := by push_cast; rfl
  have hlo : x / 2 ^ (64 - k) < 2 ^ k := by
    apply Nat.div_lt_of_lt_mul
    rw [← hpk]
    exact hx
  have e3 : x * 2 ^ k % 2 ^ 64 = 2 ^ k * (x % 2 ^ (64 - k)) := by
    rw [hpk, Nat.mul_mod_mul_right, Nat.mul_comm]
  have b1 : x * 2 ^ k % 2 ^ 64 < 2 ^ 64 := Nat.mod_lt _ (by omega)
  have b2 : x / 2 ^ (64 - k) < 2 ^ 64 := Nat.lt_of_le_of_lt (Nat.div_le_self _ _) hx
  unfold rotF
  rw [e1, e2, bits_or_u64_nat _ _ (by omega) (by omega)]
  rw [show ((x : Int) * 2 ^ k % 18446744073709551616) = ((x * 2 ^ k % 2 ^ 64 : Nat) : Int) by rw [show (2 : Nat) ^ 64 = 18446744073709551616 from rfl, Int.natCast_emod, Int.natCast_mul, Int.natCast_pow]; rfl]
  rw [e3, ← Nat.two_pow_add_eq_or_of_lt hlo]
  push_cast
  rfl
theorem rotF_lt {v : Int} (v0 : 0 ≤ v) (v1 : v ≤ 18446744073709551615) {k : Nat} (hk : k < 64) : 0 ≤ rotF v k ∧ rotF v k ≤ 18446744073709551615 := by
  rw [← or_rot v0 v1 hk]
  obtain ⟨x, rfl⟩ := Int.eq_ofNat_of_zero_le v0
  have e1 : IntKind.u64.wrap ((x : Int) * 2 ^ k) = ((x * 2 ^ k % 2 ^ 64 : Nat) : Int) := by
    rw [IntKind.wrap_u64, show (2 : Nat) ^ 64 = 18446744073709551616 from rfl, Int.natCast_emod, Int.natCast_mul, Int.natCast_pow]
    rfl
  have e2 : (x : Int) / 2 ^ (64 - k) = ((x / 2 ^ (64 - k) : Nat) : Int) := by push_cast; rfl
  have b1 : x * 2 ^ k % 2 ^ 64 < 2 ^ 64 := Nat.mod_lt _ (by omega)
  have b2 : x / 2 ^ (64 - k) < 2 ^ 64 := Nat.lt_of_le_of_lt (Nat.div_le_self _ _) (by omega)
  rw [e1, e2, bits_or_u64_nat _ _ (by omega) (by omega)]
  have := Nat.or_lt_two_pow b1 b2
  omega
theorem rot_any (v : Int) (v0 : 0 ≤ v) (v1 : v ≤ 18446744073709551615) (k : Nat) (hk : k < 64) (w : World) :
    Calls Try.prog 35 #[.int .u64 v, .int .i64 k] w fun e w' => e = .returned (.int .u64 (rotF v k)) ∧ w = w' := by
  have hand : bits BinOp.and .u64 (k : Int) 63 = (k : Int) := by
    have := bits_and_u64_nat k 63 (by omega) (by omega)
    rw [show ((63 : Nat) : Int) = 63 from rfl] at this
    rw [this, show (63 : Nat) = 2 ^ 6 - 1 from rfl, Nat.and_two_pow_sub_one_eq_mod]
    omega
  go_enter Try.func35, Try.ntmps35
  go_wp2
  go_ret
  exact ⟨ret_int (or_rot v0 v1 hk), rfl⟩
end Go.Proofs.Ytgibkebdkhildaa
