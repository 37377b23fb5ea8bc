/- The contracts of pool.Give at a descriptor that is free, and of pool.Taken. Conditions: the free descriptors' cells; at most 1000 of them; the table of math/bits as it is laid. -/
import Derived.Test.YtompoghbdpfdjaaDoorM9
namespace Go.Proofs.YtompoghbdpfdjaaDoor
open Go.RowKit Go.Conc Go.Proofs.YtompoghbdpfdjaaDoorW.PrintWords Go.Proofs.YtompoghbdpfdjaaDoorW.PrintLast Go.Proofs.YtompoghbdpfdjaaDoorW.PrintMore
set_option linter.unusedVariables false
set_option linter.unusedSimpArgs false

set_option maxHeartbeats 2000000 in
theorem give_has (sz : Int) (A : Option Addr) (c : Nat) (l : List Int) (d : Nat) (w : World) (hr : Kd.C (Kd.int .i64) w A l.length l) (hc : l.length ≤ c) (h : (chkE sz l).1 = 0) (hn : (d : Int) ∈ l) :
    Calls Tryd.prog 20 #[.agg #[.int .i64 sz, .slice A l.length c], .int .i64 d] w fun e w' => e = .returned (.tuple #[.agg #[.int .i64 0, .slice none 0 0], .int .i64 7]) ∧ Below w.heap.size w w' := by
  obtain ⟨hl0, hl⟩ := chkE_len h
  obtain ⟨s1, s2, _⟩ := chkE_ok h
  have hm0 := chkE_mem h
  have hd := (hm0 _ hn).2
  have hm : ∀ x ∈ l, 0 ≤ x ∧ x < 32 := fun x hx => by have := hm0 x hx; omega
  have hk := PA.pchk sz l (by omega) (2 * l.length + 2) (Nat.le_refl _)
  have hC := Kd.C_alloc (Kd.C_alloc hr (.cells #[.int .i64 sz, .slice A l.length c] 24)) (.cells #[.int .i64 0, .slice none 0 0] 24)
  obtain ⟨B0, B1⟩ := two_box w (.int .i64 0) (.int .i64 0) #[.int .i64 sz, .slice A l.length c] #[.int .i64 0, .slice none 0 0] 24 24
  obtain ⟨i, hi⟩ : ∃ i, chkE sz l = (0, i) := ⟨(chkE sz l).2, by rw [← h]⟩
  rw [hi] at hk
  have hlt := setN_lt l hm
  have hA : setN l &&& 1 <<< d ≠ 0 := fun e => (and_bit l d hm).1 e hn
  have a1 : bits .and .u32 (setN l : Int) (2 ^ d % 4294967296) = ((setN l &&& 1 <<< d : Nat) : Int) := by
    rw [pow_mod32 d (by omega), show Int.ofNat (1 <<< d) = ((1 <<< d : Nat) : Int) from rfl, bits_and_u32_nat _ _ hlt (sh32 d (by omega))]
  have a2 : (((setN l &&& 1 <<< d : Nat) : Int) != 0) = true := by simp; omega
  have hd0 : ¬ ((d : Int) < 0) := by omega
  have hd1 : ¬ (sz ≤ (d : Int)) := by omega
  have HK := Lib.hid hk
  have HB0 := Lib.hid B0
  have HB1 := Lib.hid B1
  have HR := Lib.hid hr
  clear hk hi B0 B1 h hr hm0 hA
  generalize setN l &&& 1 <<< d = S at *
  go_enter Tryd.func20, Tryd.ntmps20
  go_wp2_with (first
    | (go_at_call 16; refine (PA.pool_Check.calls _ sz A c l 0 i _ hC hc HK.out).mono ?_; rintro e w1 ⟨rfl, hb⟩; have hbw : Below w.heap.size w w1 := (((Below.refl _ _).alloc (Nat.le_refl _) _).alloc (by simp) _).trans (hb.mono (by simp; omega)); have BKp := (hb.block w.heap.size (by simp; omega)).trans HB0.out; have BKr := (hb.block (w.heap.size + 1) (by simp)).trans HB1.out; have hz1 : w.heap.size + 2 ≤ w1.heap.size := (by have := hb.size; simp at this; omega); have HBr := Lib.hid BKr; have hp0 : w1.cell? ⟨w.heap.size, 0, none⟩ = some (.int .i64 sz) := (blk_cell BKp 0).trans rfl; have hp1 : w1.cell? ⟨w.heap.size, 1, none⟩ = some (.slice A l.length c) := (blk_cell BKp 1).trans rfl; clear BKp BKr hb)
    | (go_at_call 36; refine (free_any sz A c l _ (Kd.C_below HR.out hbw) (by omega) hm).mono ?_; rintro e w2 ⟨rfl, hb2⟩; have BK2 := (hb2.block (w.heap.size + 1) (by omega)).trans HBr.out; have hcz0 : w2.cell? ⟨w.heap.size + 1, 0, none⟩ = some (.int .i64 0) := (blk_cell BK2 0).trans rfl; have hcz1 : w2.cell? ⟨w.heap.size + 1, 1, none⟩ = some (.slice none 0 0) := (blk_cell BK2 1).trans rfl; have hfz0 := blk_frozen BK2 0; have hfz1 := blk_frozen BK2 1; have HBK2 := Lib.hid BK2; clear BK2))
  refine bodyPost_ret (results_ct rfl _ _ (w.heap.size + 1) 24 #[.int .i64 0, .slice none 0 0] (0, 0) _ rfl (by refine blk_put (cs := #[.int .i64 0, .slice none 0 0]) ?_ 1 _ rfl; refine blk_put (cs := #[.int .i64 0, .slice none 0 0]) ?_ 0 _ rfl; exact HBK2.out) Tryd.underlying24 rfl (by kernel_rfl)) rfl ?_
  exact ⟨rfl, ((hbw.trans (hb2.mono (by omega))).setCell (by simp) _).setCell (by simp) _⟩
theorem andnot_u32 (a b : Nat) (ha : a < 4294967296) (hb : b < 4294967296) (x : Int) (hx : bits .andNot .u32 (a : Int) (b : Int) = x) : ∃ c : Nat, x = (c : Int) ∧ c < 4294967296 ∧ ∀ i, c.testBit i = (a.testBit i && !b.testBit i) := by
  have h1 : (BitVec.ofInt 32 (a : Int)).toNat = a := by
    rw [BitVec.ofInt_natCast, BitVec.toNat_ofNat]; exact Nat.mod_eq_of_lt (by omega)
  have h2 : (BitVec.ofInt 32 (b : Int)).toNat = b := by
    rw [BitVec.ofInt_natCast, BitVec.toNat_ofNat]; exact Nat.mod_eq_of_lt (by omega)
  have e : bits .andNot .u32 (a : Int) (b : Int) = IntKind.u32.wrap ((BitVec.ofInt 32 (a : Int) &&& ~~~ BitVec.ofInt 32 (b : Int)).toNat : Int) := rfl
  refine ⟨(BitVec.ofInt 32 (a : Int) &&& ~~~ BitVec.ofInt 32 (b : Int)).toNat, ?_, ?_, ?_⟩
  · rw [← hx, e, wrap_u32']
    have := (BitVec.ofInt 32 (a : Int) &&& ~~~ BitVec.ofInt 32 (b : Int)).isLt
    omega
  · exact (BitVec.ofInt 32 (a : Int) &&& ~~~ BitVec.ofInt 32 (b : Int)).isLt
  · intro i
    rw [BitVec.testBit_toNat, BitVec.getLsbD_and, BitVec.getLsbD_not, ← BitVec.testBit_toNat, ← BitVec.testBit_toNat, h1, h2]
    by_cases hi : i < 32
    · simp [hi]
    · have : a.testBit i = false := Nat.testBit_lt_two_pow (Nat.lt_of_lt_of_le (show a < 2 ^ 32 by omega) (Nat.pow_le_pow_right (by decide) (by omega)))
      simp [this]
theorem taken_bad (sz : Int) (A : Option Addr) (c : Nat) (l : List Int) (w : World) (hr : Kd.C (Kd.int .i64) w A l.length l) (hc : l.length ≤ c) (hl : l.length ≤ 1000) (h : (chkE sz l).1 ≠ 0) :
    Calls Tryd.prog 24 #[.agg #[.int .i64 sz, .slice A l.length c]] w fun e w' => e = .returned (.tuple #[.slice none 0 0, .int .i64 (chkE sz l).1]) ∧ Below w.heap.size w w' := by
  have hk := PA.pchk sz l hl (2 * l.length + 2) (Nat.le_refl _)
  have hC := Kd.C_alloc hr (.cells #[.int .i64 sz, .slice A l.length c] 24)
  generalize hq : chkE sz l = q at *
  obtain ⟨e, i⟩ := q
  simp only at h ⊢
  have he : ((e : Int) != 0) = true := by simp; exact h
  have HK := Lib.hid hk
  clear hk hq
  go_enter Tryd.func24, Tryd.ntmps24
  go_wp2_with (go_at_call 16; refine (PA.pool_Check.calls _ sz A c l e i _ hC hc HK.out).mono ?_; rintro e w1 ⟨rfl, hb⟩)
  go_ret2
  exact ⟨rfl, ((Below.refl _ _).alloc (Nat.le_refl _) _).trans (hb.mono (by simp))⟩
theorem all_bits (sz : Nat) (h : sz ≤ 32) : IntKind.u64.wrap (IntKind.u64.wrap (2 ^ sz) - 1) % 4294967296 = ((2 ^ sz - 1 : Nat) : Int) := by
  have h1 : 2 ^ sz ≤ 4294967296 := Nat.pow_le_pow_right (show 0 < 2 by decide) h
  have h0 : 0 < 2 ^ sz := Nat.pow_pos (by decide)
  have e : (HPow.hPow (α := Int) (β := Nat) (γ := Int) 2 sz) = ((2 ^ sz : Nat) : Int) := by simp
  rw [e, IntKind.wrap_u64, IntKind.wrap_u64]
  generalize 2 ^ sz = x at *
  omega
set_option maxHeartbeats 2000000 in
theorem taken_good (sz : Nat) (A : Option Addr) (c : Nat) (l : List Int) (w : World) (gc : GC w) (hr : Kd.C (Kd.int .i64) w A l.length l) (hc : l.length ≤ c) (h : (chkE sz l).1 = 0) :
    Calls Tryd.prog 24 #[.agg #[.int .i64 sz, .slice A l.length c]] w fun e w' => ∃ v, e = .returned (.tuple #[v, .int .i64 0]) ∧ Kd.R (Kd.int .i64) 3 w' w.heap.size (fun _ => True) v ((upto sz).filter (fun i => !decide (i ∈ l))) ∧ Below w.heap.size w w' := by
  obtain ⟨hl0, hl⟩ := chkE_len h
  obtain ⟨s1, s2, _⟩ := chkE_ok h
  have hm0 := chkE_mem h
  have hm : ∀ x ∈ l, 0 ≤ x ∧ x < 32 := fun x hx => by have := hm0 x hx; omega
  have hk := PA.pchk sz l (by omega) (2 * l.length + 2) (Nat.le_refl _)
  have hC := Kd.C_alloc hr (.cells #[.int .i64 sz, .slice A l.length c] 24)
  have B0 := one_box w #[.int .i64 sz, .slice A l.length c] 24
  obtain ⟨i, hi⟩ : ∃ i, chkE sz l = (0, i) := ⟨(chkE sz l).2, by rw [← h]⟩
  rw [hi] at hk
  have hlt := setN_lt l hm
  have hall := all_bits sz (by omega)
  obtain ⟨cn, hcn, hcl, hcb⟩ := andnot_u32 (2 ^ sz - 1) (setN l) (by have := Nat.pow_le_pow_right (show 0 < 2 by decide) (show sz ≤ 32 by omega); omega) hlt _ rfl
  have hv : bits BinOp.andNot IntKind.u32 (IntKind.u64.wrap (IntKind.u64.wrap (2 ^ sz) - 1) % 4294967296) (setN l : Int) = (cn : Int) := by rw [hall]; exact hcn
  have hL : Lst cn ((upto sz).filter (fun i => !decide (i ∈ l))) := by
    have h0 := lst_filter 32 cn hcl (Nat.le_refl _)
    have e1 : (fun i : Int => cn.testBit i.toNat) = fun i : Int => (decide (i.toNat < sz) && !decide ((i.toNat : Int) ∈ l)) := by
      funext i
      rw [hcb, setN_bit l _ (fun x hx => (hm x hx).1), Nat.testBit_two_pow_sub_one]
    rw [e1, filter_wide _ sz ?_ 32 (by omega)] at h0
    · have e2 : (upto sz).filter (fun i : Int => (decide (i.toNat < sz) && !decide ((i.toNat : Int) ∈ l))) = (upto sz).filter (fun i => !decide (i ∈ l)) := by
        apply List.filter_congr
        intro x hx
        simp only [upto, List.mem_map, List.mem_range] at hx
        obtain ⟨j, hj, rfl⟩ := hx
        rw [Int.toNat_natCast, decide_eq_true hj, Bool.true_and]
      rw [e2] at h0
      exact h0
    · intro i hi
      rw [Int.toNat_natCast, decide_eq_false (by omega), Bool.false_and]
  have hlen : ((upto sz).filter (fun i => !decide (i ∈ l))).length ≤ 100 := Nat.le_trans (List.length_filter_le _ _) (by rw [upto_len]; omega)
  have HK := Lib.hid hk
  have HB0 := Lib.hid B0
  have HR := Lib.hid hr
  have HG := Lib.hid gc
  have HL := Lib.hid hL
  have HV := Lib.hid hv
  clear hk hi B0 h hr gc hv hL hall hcn hcb
  generalize hF : (upto sz).filter (fun i => !decide (i ∈ l)) = F at *
  have HF := Lib.hid hF
  clear hF
  go_enter Tryd.func24, Tryd.ntmps24
  go_wp2_with (first
    | (go_at_call 16; refine (PA.pool_Check.calls _ sz A c l 0 i _ hC hc HK.out).mono ?_; rintro e w1 ⟨rfl, hb⟩; have hbw : Below w.heap.size w w1 := ((Below.refl _ _).alloc (Nat.le_refl _) _).trans (hb.mono (by simp)); have BKp := (hb.block w.heap.size (by simp)).trans HB0.out; have hz1 : w.heap.size + 1 ≤ w1.heap.size := (by have := hb.size; simp at this; omega); have hp0 : w1.cell? ⟨w.heap.size, 0, none⟩ = some (.int .i64 sz) := (blk_cell BKp 0).trans rfl; have hp1 : w1.cell? ⟨w.heap.size, 1, none⟩ = some (.slice A l.length c) := (blk_cell BKp 1).trans rfl; clear BKp hb)
    | (go_at_call 36; refine (free_any sz A c l _ (Kd.C_below HR.out hbw) (by omega) hm).mono ?_; rintro e w2 ⟨rfl, hb2⟩)
    | (go_at_call 37; refine (listed_at _ cn F HV.out hcl HL.out hlen w2 (gcB (gcB HG.out hbw) hb2)).mono ?_; rintro e w3 ⟨v, rfl, ho, hb3⟩))
  go_ret2
  refine ⟨_, rfl, Kd.R_lower ho (by have := hb2.size; omega), hbw.trans ((hb2.mono (by omega)).trans (hb3.mono (by have := hb2.size; omega)))⟩
end Go.Proofs.YtompoghbdpfdjaaDoor
