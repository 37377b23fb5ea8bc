/- headgateref04.Text (31): the walk. -/
import Derived.Test.YtgibkebdkhildaaV
namespace Go.Proofs.Ytgibkebdkhildaa
open Go.RowKit
set_option linter.unusedVariables false
set_option linter.unusedSimpArgs false

theorem son_app (xs ys : List Int) : strOfNums xs ++ strOfNums ys = strOfNums (xs ++ ys) := by
  apply ByteArray.ext
  rw [ByteArray.data_append]
  simp [strOfNums]
theorem son_sp : (⟨#[32]⟩ : ByteArray) = strOfNums [32] := rfl
theorem son_hex (d : Int) (d0 : 0 ≤ d) (d1 : d < 16) : (⟨#[48, 49, 50, 51, 52, 53, 54, 55, 56, 57, 97, 98, 99, 100, 101, 102]⟩ : ByteArray).extract d.toNat (d + 1).toNat = strOfNums [hexB d] := by
  rcases (show d = 0 ∨ d = 1 ∨ d = 2 ∨ d = 3 ∨ d = 4 ∨ d = 5 ∨ d = 6 ∨ d = 7 ∨ d = 8 ∨ d = 9 ∨ d = 10 ∨ d = 11 ∨ d = 12 ∨ d = 13 ∨ d = 14 ∨ d = 15 by omega) with rfl | rfl | rfl | rfl | rfl | rfl | rfl | rfl | rfl | rfl | rfl | rfl | rfl | rfl | rfl | rfl <;> decide +kernel

set_option maxRecDepth 20000 in
set_option maxHeartbeats 8000000 in
theorem rtext_any (C : List Int) (hC : C.length = 8) (hw : ∀ x ∈ C, 0 ≤ x ∧ x ≤ 18446744073709551615) (w : World) :
    Calls Try.prog 31 #[.agg (ca C)] w fun e w' => e = .returned (.string (strOfNums (txF C))) ∧ Below w.heap.size w w' := by
  have h0 := heap_alloc_new w (.cells (ca C) 24)
  go_enter Try.func31, Try.ntmps31
  go_wp2_with fail
  go_loopw [3, 4] (fun v i wr => ∃ k : Nat, k ≤ 8 ∧ i = .int .i64 k ∧ v = .string (strOfNums (txp C k)) ∧ wr.heap[w.heap.size]? = some (.cells (ca C) 24 (0, 0)) ∧ Below w.heap.size w wr) (fun _ i _ => 8 - (intOf i).toNat)
  case atStart => exact ⟨0, by omega, rfl, rfl, h0, (Below.refl _ _).alloc (Nat.le_refl _) _⟩
  case round =>
    clear h0
    obtain ⟨k, hk, rfl, rfl, hr, hb⟩ := hrel
    by_cases hlt : k < 8
    · have hlt' : k < C.length := by omega
      obtain ⟨x0, x1⟩ := hw (C.getD k 0) (by rw [List.getD_eq_getElem?_getD, List.getElem?_eq_getElem hlt']; exact List.getElem_mem hlt')
      have hcell : wr.cell? ⟨w.heap.size, k, none⟩ = some (.int .u64 (C.getD k 0)) := by
        rw [cell_of_row _ _ _ _ _ _ hr, ca_get C _ (by omega)]
        simp
      have hlen := txp_len C k
      have hl16 : (txp C k).length ≤ 136 := by rw [hlen]; omega
      have HTX := hid (show txp C (k + 1) = txp C k ++ sep k ++ dgs (C.getD k 0) 16 from rfl)
      clear hlen
      generalize hx : C.getD k 0 = x at *
      clear hx
      have HR := hid hr
      clear hr
      have i0' : (0 : Int) ≤ (k : Int) := by omega
      have i1' : (k : Int) < 8 := by omega
      by_cases hk0 : k = 0
      · have k1 : ¬ (0 : Int) < (k : Int) := by omega
        have hs : sep k = [] := if_pos hk0
        have hpl0 : (txp C k ++ sep k).length ≤ 140 := by rw [hs, List.append_nil]; omega
        have he : txp C k = txp C k ++ sep k := by rw [hs, List.append_nil]
        have HE := hid (congrArg strOfNums he)
        rw [HE.out]
        clear hs he hk0 HE
        go_wp2_with fail
        generalize hpre : txp C k ++ sep k = pre at *
        clear hpre
        go_loopw [3, 5] (fun v i wi => ∃ q : Nat, q ≤ 16 ∧ i = .int .i64 (15 - (q : Int)) ∧ v = .string (strOfNums (pre ++ dgs x q)) ∧ wi = wr) (fun _ i _ => (intOf i + 1).toNat)
        case atStart => exact ⟨0, by omega, rfl, by simp [dgs], rfl⟩
        case round =>
          obtain ⟨q, hq, rfl, rfl, rfl⟩ := hrel
          by_cases hlq : q < 16
          · have hE : ((4 : Int) * (15 - (q : Int))).toNat = 60 - 4 * q := by omega
            have j0 : (0 : Int) ≤ 15 - (q : Int) := by omega
            have j1 : (15 : Int) - (q : Int) < 16 := by omega
            have y0 : 0 ≤ x / 2 ^ (60 - 4 * q) := Int.ediv_nonneg x0 (Int.le_of_lt (Int.pow_pos (by omega)))
            have ht : (x / 2 ^ (60 - 4 * q)).tmod 16 = x / 2 ^ (60 - 4 * q) % 16 := Int.tmod_eq_emod_of_nonneg y0
            have HD := hid (dgs_succ x q)
            have d0 : 0 ≤ x / 2 ^ (60 - 4 * q) % 16 := Int.emod_nonneg _ (by omega)
            have d1 : x / 2 ^ (60 - 4 * q) % 16 < 16 := Int.emod_lt_of_pos _ (by omega)
            generalize hde : x / 2 ^ (60 - 4 * q) % 16 = d at *
            clear hde
            have hh := son_hex d d0 d1
            have hap : strOfNums (pre ++ dgs x q) ++ strOfNums [hexB d] = strOfNums (pre ++ dgs x (q + 1)) := by rw [son_app, HD.out, List.append_assoc]
            have hz : ¬ 9223372036854775807 < (strOfNums (pre ++ dgs x q)).size + (strOfNums [hexB d]).size := by rw [strOfNums_size, strOfNums_size, List.length_append, dgs_len]; simp; omega
            go_wp2_with fail
            refine ⟨⟨q + 1, by omega, by congr 1; omega, rfl, trivial⟩, by simp [intOf]; omega⟩
          · obtain rfl : q = 16 := by omega
            go_wp2_with fail
            refine ⟨⟨k + 1, by omega, by go_num, ?_, HR.out, hb⟩, by simp [intOf]; omega⟩
            rw [HTX.out]
      · have k1 : (0 : Int) < (k : Int) := by omega
        have hs : sep k = [32] := if_neg hk0
        have hpl0 : (txp C k ++ sep k).length ≤ 140 := by rw [hs, List.length_append]; simp; omega
        have hsz : (strOfNums (txp C k)).size ≤ 136 := by rw [strOfNums_size]; exact hl16
        have hz0 : ¬ 9223372036854775807 < (strOfNums (txp C k)).size + (⟨#[32]⟩ : ByteArray).size := by rw [strOfNums_size]; simp [ByteArray.size]; omega
        have hz1 : ¬ 9223372036854775807 < (strOfNums (txp C k)).size + 1 := by rw [strOfNums_size]; omega
        have hap0 : strOfNums (txp C k) ++ (⟨#[32]⟩ : ByteArray) = strOfNums (txp C k ++ sep k) := by rw [hs, son_sp, son_app]
        clear hs hk0
        go_wp2_with fail
        try simp only [hap0]
        clear hap0 hz0 hz1 hsz
        generalize hpre : txp C k ++ sep k = pre at *
        clear hpre
        go_loopw [3, 5] (fun v i wi => ∃ q : Nat, q ≤ 16 ∧ i = .int .i64 (15 - (q : Int)) ∧ v = .string (strOfNums (pre ++ dgs x q)) ∧ wi = wr) (fun _ i _ => (intOf i + 1).toNat)
        case atStart => exact ⟨0, by omega, rfl, by simp [dgs], rfl⟩
        case round =>
          obtain ⟨q, hq, rfl, rfl, rfl⟩ := hrel
          by_cases hlq : q < 16
          · have hE : ((4 : Int) * (15 - (q : Int))).toNat = 60 - 4 * q := by omega
            have j0 : (0 : Int) ≤ 15 - (q : Int) := by omega
            have j1 : (15 : Int) - (q : Int) < 16 := by omega
            have y0 : 0 ≤ x / 2 ^ (60 - 4 * q) := Int.ediv_nonneg x0 (Int.le_of_lt (Int.pow_pos (by omega)))
            have ht : (x / 2 ^ (60 - 4 * q)).tmod 16 = x / 2 ^ (60 - 4 * q) % 16 := Int.tmod_eq_emod_of_nonneg y0
            have HD := hid (dgs_succ x q)
            have d0 : 0 ≤ x / 2 ^ (60 - 4 * q) % 16 := Int.emod_nonneg _ (by omega)
            have d1 : x / 2 ^ (60 - 4 * q) % 16 < 16 := Int.emod_lt_of_pos _ (by omega)
            generalize hde : x / 2 ^ (60 - 4 * q) % 16 = d at *
            clear hde
            have hh := son_hex d d0 d1
            have hap : strOfNums (pre ++ dgs x q) ++ strOfNums [hexB d] = strOfNums (pre ++ dgs x (q + 1)) := by rw [son_app, HD.out, List.append_assoc]
            have hz : ¬ 9223372036854775807 < (strOfNums (pre ++ dgs x q)).size + (strOfNums [hexB d]).size := by rw [strOfNums_size, strOfNums_size, List.length_append, dgs_len]; simp; omega
            go_wp2_with fail
            refine ⟨⟨q + 1, by omega, by congr 1; omega, rfl, trivial⟩, by simp [intOf]; omega⟩
          · obtain rfl : q = 16 := by omega
            go_wp2_with fail
            refine ⟨⟨k + 1, by omega, by go_num, ?_, HR.out, hb⟩, by simp [intOf]; omega⟩
            rw [HTX.out]
    · obtain rfl : k = 8 := by omega
      go_wp2_with fail
      go_ret
      exact ⟨rfl, hb⟩
end Go.Proofs.Ytgibkebdkhildaa
