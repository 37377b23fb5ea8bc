import Derived.Test.YtgibkebdkhildaaC
namespace Go.Proofs.Ytgibkebdkhildaa
open Go.RowKit
set_option linter.unusedVariables false
set_option linter.unusedSimpArgs false

theorem rot7 (v : Int) (v0 : 0 ≤ v) (v1 : v ≤ 18446744073709551615) (w : World) :
    Calls Try.prog 35 #[.int .u64 v, .int .i64 7] w fun e w' => e = .returned (.int .u64 (rotF v 7)) ∧ w = w' := rot_any v v0 v1 7 (by omega) w
def smTo (C : List Int) : Nat → Int
  | 0 => 0
  | k + 1 => (rotF (smTo C k) 7 + C.getD k 0) % 18446744073709551616
theorem smTo_lt (C : List Int) (k : Nat) : 0 ≤ smTo C k ∧ smTo C k ≤ 18446744073709551615 := by
  cases k with
  | zero => simp [smTo]
  | succ k => unfold smTo; omega
def smF (C : List Int) : Int := smTo C 8

set_option maxHeartbeats 2000000 in
theorem sum_any (C : List Int) (hC : C.length = 8) (hw : ∀ x ∈ C, 0 ≤ x ∧ x ≤ 18446744073709551615) (w : World) :
    Calls Try.prog 19 #[.agg (ca C)] w fun e w' => e = .returned (.int .u64 (smF C)) ∧ Below w.heap.size w w' := by
  have h0 := heap_alloc_new w (.cells (ca C) 24)
  go_enter Try.func19, Try.ntmps19
  go_wp2_with (refine wpList_load_row rfl 24 _ rfl w.heap.size rfl 24 (ca C) (0, 0) _ h0 Try.underlying24 rfl (i24 hC) ?_)
  go_loopw [3, 7] (fun v i wr => ∃ k : Nat, k ≤ 8 ∧ i = .int .i64 k ∧ v = .int .u64 (smTo C k) ∧ Below w.heap.size w wr) (fun _ i _ => 8 - (intOf i).toNat)
  case atStart => exact ⟨0, by omega, rfl, rfl, (Below.refl _ _).alloc (Nat.le_refl _) _⟩
  case round =>
    obtain ⟨k, hk, rfl, rfl, hb⟩ := hrel
    by_cases hlt : k < 8
    · have hlt' : k < C.length := by omega
      have hget := run_index24 C hC k hlt
      obtain ⟨x0, x1⟩ := hw (C.getD k 0) (by rw [List.getD_eq_getElem?_getD, List.getElem?_eq_getElem hlt']; exact List.getElem_mem hlt')
      have hS : smTo C (k + 1) = (rotF (smTo C k) 7 + C.getD k 0) % 18446744073709551616 := rfl
      obtain ⟨s0, s1⟩ := smTo_lt C k
      obtain ⟨r0, r1⟩ := rotF_lt s0 s1 (show 7 < 64 by omega)
      generalize hY : smTo C (k + 1) = Y at hS
      generalize hx : C.getD k 0 = x at *
      generalize smTo C k = S at *
      go_wp2_with fail
      refine (rot7 S s0 s1 _).mono ?_
      rintro e w' ⟨rfl, rfl⟩
      generalize rotF S 7 = R at *
      go_wp2_with fail
      exact ⟨⟨k + 1, by omega, by go_num, by rw [hY, hS, IntKind.wrap_u64], hb⟩, by simp [intOf]; omega⟩
    · obtain rfl : k = 8 := by omega
      go_wp2_with fail
      go_ret
      exact ⟨rfl, hb⟩

def EX : List Int := [1234605616436508552, 255, 0, 0, 0, 0, 0, 0]
def EY : List Int := [0, 0, 0, 0, 0, 0, 1234605616436508552, 255]
set_option maxHeartbeats 2000000 in
theorem ex_any (w : World) : Calls Try.prog 34 #[] w fun e w' => e = .returned (.agg (ca EX)) ∧ Below w.heap.size w w' := by
  go_enter Try.func34, Try.ntmps34
  go_wp2
  exact bodyPost_ret (v := .agg (ca EX)) (by simp [results, Try.results34, go_sem, ca, EX]) rfl ⟨rfl, (Below.refl _ _).alloc (Nat.le_refl _) _⟩
theorem bytes_ex (w : World) : Calls Try.prog 20 #[.agg (ca EX), .int .i64 7, .int .i64 3] w fun e w' => e = .returned (.tuple #[.int .u64 65297, .int .i64 0]) ∧ Below w.heap.size w w' := by
  have h := bytes_ok EX rfl (by decide) 7 3 (by omega) (by omega) (by omega) w
  rw [show byTo EX 7 3 = 65297 by decide +kernel] at h
  exact h
theorem signed_ex (w : World) : Calls Try.prog 22 #[.agg (ca EX), .int .i64 0, .int .i64 1] w fun e w' => e = .returned (.tuple #[.int .i64 (-120), .int .i64 0]) ∧ Below w.heap.size w w' := by
  have h := signed_ok EX rfl (by decide) 0 1 (by omega) (by omega) (by omega) w
  rw [show sgF (byTo EX 0 1) 1 = -120 by decide +kernel] at h
  exact h
theorem sum_ex (w : World) : Calls Try.prog 19 #[.agg #[.int .u64 0, .int .u64 0, .int .u64 0, .int .u64 0, .int .u64 0, .int .u64 0, .int .u64 1234605616436508552, .int .u64 255]] w fun e w' => e = .returned (.int .u64 10455566314196681991) ∧ Below w.heap.size w w' := by
  have h := sum_any EY rfl (by decide) w
  rw [show smF EY = 10455566314196681991 by decide +kernel] at h
  exact h
set_option maxHeartbeats 2000000 in
theorem awake_any (w : World) : Calls Try.prog 15 #[] w fun e w' => e = .returned (.bool true) ∧ Below w.heap.size w w' := by
  go_enter Try.func15, Try.ntmps15
  go_wp2_with fail
  refine (ex_any _).mono ?_
  rintro e w1 ⟨rfl, hb1⟩
  go_wp2_with fail
  refine (bytes_ex _).mono ?_
  rintro e w2 ⟨rfl, hb2⟩
  go_wp2_with fail
  refine (ex_any _).mono ?_
  rintro e w3 ⟨rfl, hb3⟩
  go_wp2_with fail
  refine (signed_ex _).mono ?_
  rintro e w4 ⟨rfl, hb4⟩
  go_wp2_with fail
  refine (sum_ex _).mono ?_
  rintro e w5 ⟨rfl, hb5⟩
  go_wp2_with fail
  go_ret
  have b2 := hb1.trans (hb2.mono hb1.size)
  have b3 := b2.trans (hb3.mono b2.size)
  have b4 := b3.trans (hb4.mono b3.size)
  exact ⟨rfl, b4.trans (hb5.mono b4.size)⟩
end Go.Proofs.Ytgibkebdkhildaa
