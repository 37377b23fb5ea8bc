/- The contracts of pool.free, pool.Give and pool.Taken. Conditions: the free descriptors' cells; at most 1000 of them; the table of math/bits as it is laid. -/
import Derived.Test.YtompoghbdpfdjaaDoorM8
import Derived.Laws.BitsLemmas
namespace Go.Proofs.YtompoghbdpfdjaaDoor
open Go.RowKit Go.Conc Go.Proofs.YtompoghbdpfdjaaDoorW.PrintWords Go.Proofs.YtompoghbdpfdjaaDoorW.PrintLast Go.Proofs.YtompoghbdpfdjaaDoorW.PrintMore
set_option linter.unusedVariables false
set_option linter.unusedSimpArgs false

theorem bits_or_u32_nat (a b : Nat) (ha : a < 4294967296) (hb : b < 4294967296) : bits .or .u32 (a : Int) (b : Int) = ((a ||| b : Nat) : Int) := by
  have hx : a ||| b < 2 ^ 32 := Nat.or_lt_two_pow (by omega) (by omega)
  have h1 : (BitVec.ofInt 32 (a : Int)).toNat = a := by
    rw [BitVec.ofInt_natCast, BitVec.toNat_ofNat]; exact Nat.mod_eq_of_lt (by omega)
  have h2 : (BitVec.ofInt 32 (b : Int)).toNat = b := by
    rw [BitVec.ofInt_natCast, BitVec.toNat_ofNat]; exact Nat.mod_eq_of_lt (by omega)
  show IntKind.u32.wrap ((BitVec.ofInt 32 (a : Int) ||| BitVec.ofInt 32 (b : Int)).toNat : Int) = _
  rw [BitVec.toNat_or, h1, h2, wrap_u32']
  omega
theorem sh32 (d : Nat) (h : d < 32) : 1 <<< d < 4294967296 := by
  rw [Nat.shiftLeft_eq, Nat.one_mul]
  exact Nat.lt_of_lt_of_le (Nat.pow_lt_pow_right (by decide) h) (by decide)
theorem pow_mod32 (d : Nat) (h : d < 32) : (HMod.hMod (α := Int) (β := Int) (γ := Int) (HPow.hPow (α := Int) (β := Nat) (γ := Int) 2 d) 4294967296) = Int.ofNat (1 <<< d) := by
  have h1 := sh32 d h
  rw [Nat.shiftLeft_eq, Nat.one_mul] at h1 ⊢
  have e : (HPow.hPow (α := Int) (β := Nat) (γ := Int) 2 d) = ((2 ^ d : Nat) : Int) := by simp
  rw [e]
  show _ = ((2 ^ d : Nat) : Int)
  generalize 2 ^ d = x at *
  omega
theorem free_any (sz : Int) (A : Option Addr) (c : Nat) (l : List Int) (w : World) (hr : Kd.C (Kd.int .i64) w A l.length l) (hl : l.length ≤ 1000) (hm : ∀ x ∈ l, 0 ≤ x ∧ x < 32) :
    Calls Tryd.prog 36 #[.agg #[.int .i64 sz, .slice A l.length c]] w fun e w' => e = .returned (.int .u32 (setN l)) ∧ Below w.heap.size w w' := by
  have hC := Kd.C_alloc hr (.cells #[.int .i64 sz, .slice A l.length c] 24)
  go_enter Tryd.func36, Tryd.ntmps36
  go_wp2
  go_loop [3, 9] (fun o i => ∃ k : Nat, k ≤ l.length ∧ i = .int .i64 k ∧ o = .int .u32 (setN (l.take k))) (fun _ i => l.length - (intOf i).toNat)
  case atStart => exact ⟨0, Nat.zero_le _, rfl, rfl⟩
  case round =>
    obtain ⟨k, hk, rfl, rfl⟩ := hrel
    by_cases hlt : k < l.length
    · obtain ⟨ad, hA, hcell⟩ := Kd.at_int hC k (by omega) (by omega)
      rw [PA.rd_opt, List.getElem?_eq_getElem hlt, Option.getD_some, Int.toNat_natCast] at hcell
      subst hA
      have hx := hm l[k] (List.getElem_mem hlt)
      have ht : l.take k ++ [l[k]] = l.take (k + 1) := by rw [List.take_add_one, List.getElem?_eq_getElem hlt]; rfl
      have hs := setN_snoc (l.take k) l[k]
      rw [ht] at hs
      have HS := Lib.hid hs
      clear hs ht
      obtain ⟨hx0, hx1⟩ := hx
      have hlt2 : setN (l.take k) < 4294967296 := setN_lt _ (fun x hx => hm x (List.mem_of_mem_take hx))
      generalize l[k] = d at *
      obtain ⟨d, rfl⟩ : ∃ n : Nat, d = (n : Int) := ⟨d.toNat, by omega⟩
      go_wp2
      rw [pow_mod32 d (by omega)]
      have eb := bits_or_u32_nat _ _ hlt2 (sh32 d (by omega))
      rw [show Int.ofNat (1 <<< d) = ((1 <<< d : Nat) : Int) from rfl, eb]
      refine ⟨⟨k + 1, by omega, rfl, ?_⟩, by simp [intOf]; omega⟩
      rw [HS.out]
      rfl
    · obtain rfl : k = l.length := by omega
      go_wp2
      go_ret
      exact ⟨rfl, (Below.refl _ _).alloc (Nat.le_refl _) _⟩

theorem listed_at (v : Int) (x : Nat) (l : List Int) (hv : v = (x : Int)) (hx : x < 4294967296) (hl : Lst x l) (hn : l.length ≤ 100) (w : World) (gc : GC w) :
    Calls Tryd.prog 37 #[.int .u32 v] w fun e w' => ∃ v, e = .returned v ∧ Kd.R (Kd.int .i64) 3 w' w.heap.size (fun _ => True) v l ∧ Below w.heap.size w w' := by
  subst hv; exact listed_any x l hx hl hn w gc
theorem and_bit (l : List Int) (d : Nat) (hm : ∀ x ∈ l, 0 ≤ x ∧ x < 32) : (setN l &&& (1 <<< d) = 0) ↔ ¬ ((d : Int) ∈ l) := by
  rw [Nat.shiftLeft_eq, Nat.one_mul]
  have hb := setN_bit l d (fun x hx => (hm x hx).1)
  constructor
  · intro h hd
    have : (setN l &&& 2 ^ d).testBit d = true := by rw [Nat.testBit_and, hb, Nat.testBit_two_pow_self]; simp [hd]
    rw [h] at this
    simp at this
  · intro h
    apply Nat.eq_of_testBit_eq
    intro i
    rw [Nat.testBit_and, Nat.zero_testBit, Nat.testBit_two_pow]
    by_cases e : d = i
    · subst e; rw [hb]; simp [h]
    · simp [e]
set_option maxHeartbeats 2000000 in
theorem give_good (sz : Int) (A : Option Addr) (c : Nat) (l : List Int) (d : Nat) (w : World) (gc : GC w) (hr : Kd.C (Kd.int .i64) w A l.length l) (hc : l.length ≤ c) (h : (chkE sz l).1 = 0) (hd : (d : Int) < sz) (hn : ¬ (d : Int) ∈ l) :
    Calls Tryd.prog 20 #[.agg #[.int .i64 sz, .slice A l.length c], .int .i64 d] w fun e w' => ∃ v, e = .returned (.tuple #[.agg #[.int .i64 sz, v], .int .i64 0]) ∧ Kd.R (Kd.int .i64) 3 w' w.heap.size (fun _ => True) v ((upto sz.toNat).filter (fun i => decide (i = (d : Int)) || decide (i ∈ l))) ∧ Below w.heap.size w w' := by
  obtain ⟨hl0, hl⟩ := chkE_len h
  obtain ⟨s1, s2, _⟩ := chkE_ok h
  have hm0 := chkE_mem h
  have hm : ∀ x ∈ l, 0 ≤ x ∧ x < 32 := fun x hx => by have := hm0 x hx; omega
  have hk := PA.pchk sz l (by omega) (2 * l.length + 2) (Nat.le_refl _)
  have hC := Kd.C_alloc (Kd.C_alloc hr (.cells #[.int .i64 sz, .slice A l.length c] 24)) (.cells #[.int .i64 0, .slice none 0 0] 24)
  obtain ⟨B0, B1⟩ := two_box w (.int .i64 0) (.int .i64 0) #[.int .i64 sz, .slice A l.length c] #[.int .i64 0, .slice none 0 0] 24 24
  obtain ⟨i, hi⟩ : ∃ i, chkE sz l = (0, i) := ⟨(chkE sz l).2, by rw [← h]⟩
  rw [hi] at hk
  have hlt := setN_lt l hm
  have hor : setN l ||| 1 <<< d < 4294967296 := by
    have : setN l ||| 1 <<< d < 2 ^ 32 := Nat.or_lt_two_pow (by omega) (by have := sh32 d (by omega); omega)
    exact this
  have hL : Lst (setN l ||| 1 <<< d) ((upto sz.toNat).filter (fun i => decide (i = (d : Int)) || decide (i ∈ l))) := by
    have h0 := lst_filter 32 (setN l ||| 1 <<< d) hor (Nat.le_refl _)
    have e1 : (fun i : Int => (setN l ||| 1 <<< d).testBit i.toNat) = fun i : Int => (decide (i.toNat = d) || decide ((i.toNat : Int) ∈ l)) := by
      funext i
      rw [Nat.testBit_or, setN_bit l _ (fun x hx => (hm x hx).1), Nat.shiftLeft_eq, Nat.one_mul, Nat.testBit_two_pow, Bool.or_comm]
      congr 1
      simp [eq_comm]
    rw [e1, filter_wide _ sz.toNat ?_ 32 (by omega)] at h0
    · have e2 : (upto sz.toNat).filter (fun i : Int => (decide (i.toNat = d) || decide ((i.toNat : Int) ∈ l))) = (upto sz.toNat).filter (fun i => decide (i = (d : Int)) || decide (i ∈ l)) := by
        apply List.filter_congr
        intro x hx
        simp only [upto, List.mem_map, List.mem_range] at hx
        obtain ⟨j, hj, rfl⟩ := hx
        rw [Int.toNat_natCast]
        congr 1
        exact decide_eq_decide.2 ⟨fun h => by omega, fun h => by omega⟩
      rw [e2] at h0
      exact h0
    · intro i hi
      simp only [Int.toNat_natCast, Bool.or_eq_false_iff, decide_eq_false_iff_not]
      exact ⟨by omega, fun hx => by have := hm0 _ hx; omega⟩
  have hA : setN l &&& 1 <<< d = 0 := (and_bit l d hm).2 hn
  have a1 : bits .and .u32 (setN l : Int) (2 ^ d % 4294967296) = 0 := by
    rw [pow_mod32 d (by omega), show Int.ofNat (1 <<< d) = ((1 <<< d : Nat) : Int) from rfl, bits_and_u32_nat _ _ hlt (sh32 d (by omega)), hA]; rfl
  have a2 : bits .or .u32 (setN l : Int) (2 ^ d % 4294967296) = ((setN l ||| 1 <<< d : Nat) : Int) := by
    rw [pow_mod32 d (by omega), show Int.ofNat (1 <<< d) = ((1 <<< d : Nat) : Int) from rfl, bits_or_u32_nat _ _ hlt (sh32 d (by omega))]
  have hd0 : ¬ ((d : Int) < 0) := by omega
  have hd1 : ¬ (sz ≤ (d : Int)) := by omega
  have HK := Lib.hid hk
  have HB0 := Lib.hid B0
  have HB1 := Lib.hid B1
  have HR := Lib.hid hr
  have HL := Lib.hid hL
  have HG := Lib.hid gc
  clear hk hi B0 B1 h hr hL gc hm0 hA
  go_enter Tryd.func20, Tryd.ntmps20
  go_wp2_with (first
    | (go_at_call 16; refine (PA.pool_Check.calls _ sz A c l 0 i _ hC hc HK.out).mono ?_; rintro e w1 ⟨rfl, hb⟩; have hbw : Below w.heap.size w w1 := (((Below.refl _ _).alloc (Nat.le_refl _) _).alloc (by simp) _).trans (hb.mono (by simp; omega)); have BKp := (hb.block w.heap.size (by simp; omega)).trans HB0.out; have BKr := (hb.block (w.heap.size + 1) (by simp)).trans HB1.out; have hz1 : w.heap.size + 2 ≤ w1.heap.size := (by have := hb.size; simp at this; omega); have HBp := Lib.hid BKp; have HBr := Lib.hid BKr; have hp0 : w1.cell? ⟨w.heap.size, 0, none⟩ = some (.int .i64 sz) := (blk_cell BKp 0).trans rfl; have hp1 : w1.cell? ⟨w.heap.size, 1, none⟩ = some (.slice A l.length c) := (blk_cell BKp 1).trans rfl; clear BKp BKr hb)
    | (go_at_call 36; refine (free_any sz A c l _ (Kd.C_below HR.out hbw) (by omega) hm).mono ?_; rintro e w2 ⟨rfl, hb2⟩; have hq0 : w2.cell? ⟨w.heap.size, 0, none⟩ = some (.int .i64 sz) := (hb2.cell (p := ⟨w.heap.size, 0, none⟩) (by show w.heap.size < w1.heap.size; omega)).trans hp0))
  have hg2 : GC w2.drew := gcB (gcB HG.out hbw) hb2.drew
  have HG2 := Lib.hid hg2
  have BKr2 := (hb2.block (w.heap.size + 1) (by omega)).trans HBr.out
  have HBr2 := Lib.hid BKr2
  have hbw2 := hbw.trans (hb2.mono (by omega))
  have hzz : w1.heap.size ≤ w2.heap.size := hb2.size
  have hlen : ((upto sz.toNat).filter (fun i => decide (i = (d : Int)) || decide (i ∈ l))).length ≤ 100 := Nat.le_trans (List.length_filter_le _ _) (by rw [upto_len]; omega)
  have hw64 : IntKind.u64.wrap (d : Int) = (d : Int) := by rw [IntKind.wrap_u64]; omega
  clear hg2 BKr2 hp0 hp1 hC HB0 HB1 HBp HBr HK
  go_region_held3 (fun w' => w'.cell? ⟨w.heap.size, 0, none⟩ = some (.int .i64 sz))
    (first | assumption | go_keep)
    (first | (go_at_call 37; refine (listed_at _ (setN l ||| 1 <<< d) _ ?hv hor HL.out hlen w2.drew HG2.out).mono ?_; (case hv => rw [wrap_u32']; exact a2); rintro e w3 ⟨v, rfl, ho, hb3⟩; obtain ⟨Ao, co, eo⟩ := Kd.R_slice ho; subst eo; have hr0 : w3.cell? ⟨w.heap.size, 0, none⟩ = some (.int .i64 sz) := (hb3.cell (p := ⟨w.heap.size, 0, none⟩) (by show w.heap.size < w2.heap.size; omega)).trans hq0; have BK3 := (hb3.block (w.heap.size + 1) (by show w.heap.size + 1 < w2.heap.size; omega)).trans HBr2.out; have hcz0 : w3.cell? ⟨w.heap.size + 1, 0, none⟩ = some (.int .i64 0) := (blk_cell BK3 0).trans rfl; have hcz1 : w3.cell? ⟨w.heap.size + 1, 1, none⟩ = some (.slice none 0 0) := (blk_cell BK3 1).trans rfl; have hfz0 := blk_frozen BK3 0; have hfz1 := blk_frozen BK3 1; have HBK3 := Lib.hid BK3; clear BK3))
  go_wp2_with fail
  generalize hF : (upto sz.toNat).filter (fun i => decide (i = (d : Int)) || decide (i ∈ l)) = F at *
  refine bodyPost_ret (results_ct rfl _ _ (w.heap.size + 1) 24 #[.int .i64 sz, .slice Ao F.length co] (0, 0) _ rfl (by refine blk_put (cs := #[.int .i64 sz, .slice none 0 0]) ?_ 1 _ rfl; refine blk_put (cs := #[.int .i64 0, .slice none 0 0]) ?_ 0 _ rfl; exact HBK3.out) Tryd.underlying24 rfl (by kernel_rfl)) rfl ?_
  have hzd : w2.drew.heap.size = w2.heap.size := rfl
  have hbw3 : Below w.heap.size w w2.drew := hbw2.drew
  refine ⟨_, rfl, far2 ho (by omega) (by omega) _ _ _ _, ((hbw3.trans (hb3.mono (by omega))).setCell (by simp) _).setCell (by simp) _⟩
set_option maxHeartbeats 2000000 in
/-- Give where it answers an error -/
theorem give_bad (sz : Int) (A : Option Addr) (c : Nat) (l : List Int) (d : Int) (w : World) (hr : Kd.C (Kd.int .i64) w A l.length l) (hc : l.length ≤ c) (hl : l.length ≤ 1000) (h : askE sz l d ≠ 0) :
    Calls Tryd.prog 20 #[.agg #[.int .i64 sz, .slice A l.length c], .int .i64 d] w fun e w' => e = .returned (.tuple #[.agg #[.int .i64 0, .slice none 0 0], .int .i64 (askE sz l d)]) ∧ Below w.heap.size w w' := by
  have hk := PA.pchk sz l hl (2 * l.length + 2) (Nat.le_refl _)
  have hC := Kd.C_alloc (Kd.C_alloc hr (.cells #[.int .i64 sz, .slice A l.length c] 24)) (.cells #[.int .i64 0, .slice none 0 0] 24)
  obtain ⟨B0, B1⟩ := two_box w (.int .i64 0) (.int .i64 0) #[.int .i64 sz, .slice A l.length c] #[.int .i64 0, .slice none 0 0] 24 24
  obtain ⟨e, i, hq⟩ : ∃ e i, chkE sz l = (e, i) := ⟨_, _, rfl⟩
  rw [hq] at hk
  have ha : askE sz l d = if e = 0 then (if d < 0 ∨ sz ≤ d then 2 else 0) else e := by unfold askE; rw [hq]
  have HK := Lib.hid hk
  have HB0 := Lib.hid B0
  have HB1 := Lib.hid B1
  clear hk hq B0 B1 hr
  have fin : ∀ (w1 : World) (hb : Below ((w.alloc (.cells #[.int .i64 sz, .slice A l.length c] 24)).alloc (.cells #[.int .i64 0, .slice none 0 0] 24)).heap.size ((w.alloc (.cells #[.int .i64 sz, .slice A l.length c] 24)).alloc (.cells #[.int .i64 0, .slice none 0 0] 24)) w1) (x y : Value), Below w.heap.size w ((w1.setCell ⟨w.heap.size + 1, 0, none⟩ x).setCell ⟨w.heap.size + 1, 1, none⟩ y) := fun w1 hb x y =>
    (((((Below.refl _ _).alloc (Nat.le_refl _) _).alloc (by simp) _).trans (hb.mono (by simp; omega))).setCell (by simp) _).setCell (by simp) _
  have FIN := Lib.hid fin
  clear fin
  by_cases he : e = 0
  · subst he
    rw [if_pos rfl] at ha
    have hd : d < 0 ∨ sz ≤ d := by
      by_cases c1 : d < 0 ∨ sz ≤ d
      · exact c1
      · rw [if_neg c1] at ha; exact absurd ha h
    rw [if_pos hd] at ha
    rw [ha]
    clear ha h
    by_cases h0 : d < 0
    · clear hd
      go_enter Tryd.func20, Tryd.ntmps20
      go_wp2_with (go_at_call 16; refine (PA.pool_Check.calls _ sz A c l 0 i _ hC hc HK.out).mono ?_; rintro e w1 ⟨rfl, hb⟩; have BKp := (hb.block w.heap.size (by simp; omega)).trans HB0.out; have BKr := (hb.block (w.heap.size + 1) (by simp)).trans HB1.out; have hp0 : w1.cell? ⟨w.heap.size, 0, none⟩ = some (.int .i64 sz) := (blk_cell BKp 0).trans rfl; have hcz0 : w1.cell? ⟨w.heap.size + 1, 0, none⟩ = some (.int .i64 0) := (blk_cell BKr 0).trans rfl; have hcz1 : w1.cell? ⟨w.heap.size + 1, 1, none⟩ = some (.slice none 0 0) := (blk_cell BKr 1).trans rfl; have hfz0 := blk_frozen BKr 0; have hfz1 := blk_frozen BKr 1; have HBr := Lib.hid BKr; clear BKp BKr)
      refine bodyPost_ret (results_ct rfl _ _ (w.heap.size + 1) 24 #[.int .i64 0, .slice none 0 0] (0, 0) _ rfl (by refine blk_put (cs := #[.int .i64 0, .slice none 0 0]) ?_ 1 _ rfl; refine blk_put (cs := #[.int .i64 0, .slice none 0 0]) ?_ 0 _ rfl; exact HBr.out) Tryd.underlying24 rfl (by kernel_rfl)) rfl ⟨rfl, FIN.out w1 hb _ _⟩
    · have h1 : sz ≤ d := by omega
      clear hd
      go_enter Tryd.func20, Tryd.ntmps20
      go_wp2_with (go_at_call 16; refine (PA.pool_Check.calls _ sz A c l 0 i _ hC hc HK.out).mono ?_; rintro e w1 ⟨rfl, hb⟩; have BKp := (hb.block w.heap.size (by simp; omega)).trans HB0.out; have BKr := (hb.block (w.heap.size + 1) (by simp)).trans HB1.out; have hp0 : w1.cell? ⟨w.heap.size, 0, none⟩ = some (.int .i64 sz) := (blk_cell BKp 0).trans rfl; have hcz0 : w1.cell? ⟨w.heap.size + 1, 0, none⟩ = some (.int .i64 0) := (blk_cell BKr 0).trans rfl; have hcz1 : w1.cell? ⟨w.heap.size + 1, 1, none⟩ = some (.slice none 0 0) := (blk_cell BKr 1).trans rfl; have hfz0 := blk_frozen BKr 0; have hfz1 := blk_frozen BKr 1; have HBr := Lib.hid BKr; clear BKp BKr)
      refine bodyPost_ret (results_ct rfl _ _ (w.heap.size + 1) 24 #[.int .i64 0, .slice none 0 0] (0, 0) _ rfl (by refine blk_put (cs := #[.int .i64 0, .slice none 0 0]) ?_ 1 _ rfl; refine blk_put (cs := #[.int .i64 0, .slice none 0 0]) ?_ 0 _ rfl; exact HBr.out) Tryd.underlying24 rfl (by kernel_rfl)) rfl ⟨rfl, FIN.out w1 hb _ _⟩
  · rw [if_neg he] at ha
    rw [ha]
    clear ha h
    have he2 : ((e : Int) != 0) = true := by simp; exact he
    go_enter Tryd.func20, Tryd.ntmps20
    go_wp2_with (go_at_call 16; refine (PA.pool_Check.calls _ sz A c l e i _ hC hc HK.out).mono ?_; rintro e w1 ⟨rfl, hb⟩; have BKr := (hb.block (w.heap.size + 1) (by simp)).trans HB1.out; have hcz0 : w1.cell? ⟨w.heap.size + 1, 0, none⟩ = some (.int .i64 0) := (blk_cell BKr 0).trans rfl; have hcz1 : w1.cell? ⟨w.heap.size + 1, 1, none⟩ = some (.slice none 0 0) := (blk_cell BKr 1).trans rfl; have hfz0 := blk_frozen BKr 0; have hfz1 := blk_frozen BKr 1; have HBr := Lib.hid BKr; clear BKr)
    refine bodyPost_ret (results_ct rfl _ _ (w.heap.size + 1) 24 #[.int .i64 0, .slice none 0 0] (0, 0) _ rfl (by refine blk_put (cs := #[.int .i64 0, .slice none 0 0]) ?_ 1 _ rfl; refine blk_put (cs := #[.int .i64 0, .slice none 0 0]) ?_ 0 _ rfl; exact HBr.out) Tryd.underlying24 rfl (by kernel_rfl)) rfl ⟨rfl, FIN.out w1 hb _ _⟩
end Go.Proofs.YtompoghbdpfdjaaDoor
