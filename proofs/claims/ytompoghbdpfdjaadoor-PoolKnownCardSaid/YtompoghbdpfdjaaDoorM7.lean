/- The contract of pool.Take. Conditions: the free descriptors' cells; at most 1000 of them. -/
import Derived.Test.YtompoghbdpfdjaaDoorM6
import Derived.BigQuiet
import Derived.Deep.QuietTactic
import Derived.Deep.RegionHeld3
namespace Go.Proofs.YtompoghbdpfdjaaDoor
open Go.RowKit Go.Conc Go.Proofs.YtompoghbdpfdjaaDoorW.PrintWords Go.Proofs.YtompoghbdpfdjaaDoorW.PrintLast Go.Proofs.YtompoghbdpfdjaaDoorW.PrintMore
set_option linter.unusedVariables false
set_option linter.unusedSimpArgs false

theorem two_box (w : World) (x y : Value) (cs ds : Array Value) (t s : TypeId) : ((w.alloc (.cells cs t)).alloc (.cells ds s)).heap[w.heap.size]? = some (.cells cs t (0, 0)) ∧ ((w.alloc (.cells cs t)).alloc (.cells ds s)).heap[w.heap.size + 1]? = some (.cells ds s (0, 0)) := by
  constructor
  · rw [Below.heap_alloc _ _ _ (by simp)]; exact heap_alloc_new w _
  · have := heap_alloc_new (w.alloc (.cells cs t)) (.cells ds s)
    simpa only [World.size_alloc] using this
theorem take_bad (sz : Int) (A : Option Addr) (c : Nat) (l : List Int) (w : World) (hr : Kd.C (Kd.int .i64) w A l.length l) (hc : l.length ≤ c) (hl : l.length ≤ 1000) (h : (chkE sz l).1 ≠ 0) :
    Calls Tryd.prog 18 #[.agg #[.int .i64 sz, .slice A l.length c]] w fun e w' => e = .returned (.tuple #[.agg #[.int .i64 0, .slice none 0 0], .int .i64 0, .int .i64 (chkE sz l).1]) ∧ Below w.heap.size w w' := by
  have hk := PA.pchk sz l hl (2 * l.length + 2) (Nat.le_refl _)
  have hC := Kd.C_alloc (Kd.C_alloc hr (.cells #[.int .i64 sz, .slice A l.length c] 24)) (.cells #[.int .i64 0, .slice none 0 0] 24)
  obtain ⟨B0, B1⟩ := two_box w (.int .i64 0) (.int .i64 0) #[.int .i64 sz, .slice A l.length c] #[.int .i64 0, .slice none 0 0] 24 24
  have hcs := chkE_cases sz l
  generalize hq : chkE sz l = q at *
  obtain ⟨e, i⟩ := q
  simp only at h hcs ⊢
  have he : ((e : Int) != 0) = true := by simp; exact h
  have HK := Lib.hid hk
  have HB0 := Lib.hid B0
  have HB1 := Lib.hid B1
  clear hk hq hcs B0 B1
  go_enter Tryd.func18, Tryd.ntmps18
  go_wp2_with (go_at_call 16; refine (PA.pool_Check.calls _ sz A c l e i _ hC hc HK.out).mono ?_; rintro e w1 ⟨rfl, hb⟩; have BK1 := (hb.block (w.heap.size + 1) (by simp)).trans HB1.out; have hcz0 : w1.cell? ⟨w.heap.size + 1, 0, none⟩ = some (.int .i64 0) := (blk_cell BK1 0).trans rfl; have hcz1 : w1.cell? ⟨w.heap.size + 1, 1, none⟩ = some (.slice none 0 0) := (blk_cell BK1 1).trans rfl; have hfz0 := blk_frozen BK1 0; have hfz1 := blk_frozen BK1 1; have HBK1 := Lib.hid BK1; clear BK1)
  refine bodyPost_ret (results_ctt rfl _ _ (w.heap.size + 1) 24 #[.int .i64 0, .slice none 0 0] (0, 0) _ rfl (by refine blk_put (cs := #[.int .i64 0, .slice none 0 0]) ?_ 1 _ rfl; refine blk_put (cs := #[.int .i64 0, .slice none 0 0]) ?_ 0 _ rfl; exact HBK1.out) Tryd.underlying24 rfl (by kernel_rfl)) rfl ?_
  refine ⟨rfl, ?_⟩
  have h1 : Below w.heap.size w w1 := (((Below.refl _ _).alloc (Nat.le_refl _) _).alloc (by simp) _).trans (hb.mono (by simp; omega))
  exact (h1.setCell (by simp) _).setCell (by simp) _
/-- what the loop of Take keeps -/
def TkI (c gp : Nat) (A : Option Addr) (cp : Nat) (l : List Int) (w : World) (a : Act) (w' : World) : Prop :=
  ∃ (k : Nat) (x0 x5 x6 x8 x9 x10 x11 x12 x13 x14 x15 x16 x17 x18 x19 x20 x21 x25 x26 x27 x28 x29 x30 x31 x32 x33 x34 x35 x36 x37 x38 x39 x40 x41 x42 : Value) (s : Nat),
    a = ⟨#[x0, .pointer (some ⟨gp, 0, none⟩), .pointer (some ⟨gp + 1, 0, none⟩), .int .i64 0, .int .i64 0, x5, x6, .chan (some c), x8, x9, x10, x11, x12, x13, x14, x15, x16, x17, x18, x19, x20, x21, .slice A l.length cp, .int .i64 l.length, .int .i64 k, x25, x26, x27, x28, x29, x30, x31, x32, x33, x34, x35, x36, x37, x38, x39, x40, x41, x42], []⟩ ∧ k ≤ l.length ∧
    w'.heap[c]? = some (.chan 32 (vals (l.take k)) false s 0 false) ∧ Below c w w'
def TkM (n : Nat) (a : Act) (_ : World) : Nat := n - (intOf (a.tmps.getD 24 undef)).toNat
theorem mk32 (w : World) : (Instr.makeChan 52 (.int .i64 32)).run Tryd.prog w = .ok (.chan (some w.heap.size)) (w.alloc (.chan 32 #[] false 0 0 false)) := mkc 32 (by omega) w
set_option maxHeartbeats 4000000 in
set_option maxRecDepth 100000 in
theorem take_good (sz : Int) (A : Option Addr) (cp : Nat) (l : List Int) (w : World) (hr : Kd.C (Kd.int .i64) w A l.length l) (hc : l.length ≤ cp) (h : (chkE sz l).1 = 0) :
    Calls Tryd.prog 18 #[.agg #[.int .i64 sz, .slice A l.length cp]] w fun e w' => ∃ v, e = .returned (.tuple #[.agg #[.int .i64 (takE sz l).1, v], .int .i64 (takE sz l).2.2.1, .int .i64 (takE sz l).2.2.2]) ∧ Kd.R (Kd.int .i64) 3 w' w.heap.size (fun _ => True) v (takE sz l).2.1 ∧ Below w.heap.size w w' := by
  obtain ⟨hl0, hl⟩ := chkE_len h
  have hk := PA.pchk sz l (by omega) (2 * l.length + 2) (Nat.le_refl _)
  have hC := Kd.C_alloc (Kd.C_alloc hr (.cells #[.int .i64 sz, .slice A l.length cp] 24)) (.cells #[.int .i64 0, .slice none 0 0] 24)
  obtain ⟨B0, B1⟩ := two_box w (.int .i64 0) (.int .i64 0) #[.int .i64 sz, .slice A l.length cp] #[.int .i64 0, .slice none 0 0] 24 24
  have HT : Hid (takE sz l = tk0 sz l) := Lib.hid (if_pos h)
  rw [HT.out]
  clear HT
  obtain ⟨i, hi⟩ : ∃ i, chkE sz l = (0, i) := ⟨(chkE sz l).2, by rw [← h]⟩
  rw [hi] at hk
  have HK := Lib.hid hk
  have HB0 := Lib.hid B0
  have HB1 := Lib.hid B1
  have HR := Lib.hid hr
  clear hk hi B0 B1 h hr
  refine calls_of_wpK Tryd.func18 rfl (fun b hk => ?_)
  simp only [Tryd.ntmps18, List.size_toArray, List.length_cons, List.length_nil, Nat.reduceAdd, Nat.reduceSub, Array.replicate_succ, Array.replicate_zero, List.push_toArray, List.append_toArray, List.nil_append, List.cons_append]
  refine WpK.seq_wp (fun K hK => ?_)
  go_wp2
  refine WpK.seq_wp (fun K hK => ?_)
  go_wp2_with (go_at_call 16; refine (PA.pool_Check.calls _ sz A cp l 0 i _ hC hc HK.out).mono ?_; rintro e w1 ⟨rfl, hb⟩)
  have BKp := (hb.block w.heap.size (by simp; omega)).trans HB0.out
  have BKr := (hb.block (w.heap.size + 1) (by simp)).trans HB1.out
  have hbw : Below w.heap.size w w1 := (((Below.refl _ _).alloc (Nat.le_refl _) _).alloc (by simp) _).trans (hb.mono (by simp; omega))
  have hz1 : w.heap.size + 2 ≤ w1.heap.size := by have := hb.size; simp at this; omega
  have hmk := mk32
  refine WpK.seq_wp (fun K hK => ?_)
  go_wp2
  have hch := heap_alloc_new w1 (.chan 32 #[] false 0 0 false)
  have hbl := (Below.refl w1.heap.size w1).alloc (Nat.le_refl _) (.chan 32 #[] false 0 0 false)
  clear hmk hC
  generalize hW : w1.alloc (.chan 32 #[] false 0 0 false) = W at *
  have BKp2 := (hbl.block w.heap.size (by omega)).trans BKp
  have BKr2 := (hbl.block (w.heap.size + 1) (by omega)).trans BKr
  have hbw2 := hbw.trans (hbl.mono (by omega))
  have hC2 : Kd.C (Kd.int .i64) W A l.length l := Kd.C_below (Kd.C_below HR.out (hbw)) hbl
  have hsz : w1.heap.size < W.heap.size := chan_size hch
  clear hW BKp BKr hbw hbl hb HB0 HB1 HK
  have fc1 : W.cell? ⟨w.heap.size, 1, none⟩ = some (.slice A l.length cp) := (blk_cell BKp2 1).trans rfl
  refine WpK.seq (WpK.seq_wp (fun K hK => ?_))
  go_wp2
  clear fc1
  refine WpK.block (WpK.loop (TkI w1.heap.size w.heap.size A cp l W) (TkM l.length) ?_ ?_)
  · exact ⟨0, _, _, _, _, _, _, _, _, _, _, _, _, _, _, _, _, _, _, _, _, _, _, _, _, _, _, _, _, _, _, _, _, _, _, _, 0, rfl, Nat.zero_le _, hch, Below.refl _ _⟩
  · rintro a w' ⟨k, x0, x5, x6, x8, x9, x10, x11, x12, x13, x14, x15, x16, x17, x18, x19, x20, x21, x25, x26, x27, x28, x29, x30, x31, x32, x33, x34, x35, x36, x37, x38, x39, x40, x41, x42, s, rfl, hkn, hcc, HB⟩
    refine WpK.seq_wp (fun K hK => ?_)
    go_wp2
    by_cases hlt : k < l.length
    · have hd2 : decide ((k : Int) < (l.length : Int)) = true := decide_eq_true (by omega)
      refine WpK.seq_wp (fun K hK => ?_)
      go_wp2
      have hC3 : Kd.C (Kd.int .i64) w' A l.length l := Kd.C_below HR.out (hbw2.trans (HB.mono (by omega)))
      obtain ⟨ad, hA, hcell⟩ := Kd.at_int hC3 k (by omega) (by omega)
      rw [PA.rd_opt, List.getElem?_eq_getElem hlt, Option.getD_some, Int.toNat_natCast] at hcell
      subst hA
      have i0 : (0 : Int) ≤ (k : Int) := by omega
      have i1 : (k : Int) < (l.length : Int) := by omega
      have hcell2 := hcell
      refine WpK.seq (WpK.block (WpK.seq_wp (fun K hK => ?_)))
      go_wp2
      refine WpK.region ?_
      show OpsK _ _ _ _ [0, 1, 2] _ _
      refine OpsK.op (v := .chan (some w1.heap.size)) (w' := w') rfl rfl (by simp [go_sem, execOp, Act.eval, Act.put]) ?_
      refine OpsK.op (v := .int .i64 l[k]) (w' := w') rfl rfl (by simp [go_sem, execOp, Act.eval, Act.put]) ?_
      refine OpsK.send (c := w1.heap.size) (v := .int .i64 l[k]) (z' := .tuple #[]) hk rfl rfl (by simp [go_sem, execOp, scase, Act.eval, Act.put]) hcc (by rw [vals_size, List.length_take]; omega) ?_
      have ht : l.take k ++ [l[k]] = l.take (k + 1) := by rw [List.take_add_one, List.getElem?_eq_getElem hlt]; rfl
      rw [vals_push, ht]
      refine OpsK.nil ?_
      have hc2 := heap_setChan w' w1.heap.size 32 (vals (l.take (k + 1))) false (s + 1) 0 false (chan_size hcc)
      have HB2 := below_setChan HB (Nat.le_refl _) 32 (vals (l.take (k + 1))) false (s + 1) 0 false
      clear ht hcell hcell2 hC3
      generalize w'.setChan w1.heap.size 32 (vals (l.take (k + 1))) false (s + 1) 0 false = W2 at *
      have Hc := Lib.hid hc2
      have HB3 := Lib.hid HB2
      clear hc2 HB2 hcc HB
      refine WpK.of_wp ?_
      go_wp2
      refine ⟨⟨k + 1, _, _, _, _, _, _, _, _, _, _, _, _, _, _, _, _, _, _, _, _, _, _, _, _, _, _, _, _, _, _, _, _, _, _, _, s + 1, rfl, by omega, Hc.out, HB3.out⟩, ?_⟩
      simp [TkM, intOf]
      omega
    · obtain rfl : k = l.length := by omega
      have hd2 : decide ((l.length : Int) < (l.length : Int)) = false := decide_eq_false (by omega)
      refine WpK.seq_wp (fun K hK => ?_)
      go_wp2
      rw [List.take_length] at hcc
      refine WpK.seq_wp (fun K hK => ?_)
      go_wp2
      refine WpK.seq (WpK.region ?_)
      show OpsK _ _ _ _ [0, 1, 2] _ _
      have BKp3 := (HB.block w.heap.size (by omega)).trans BKp2
      have BKr3 := (HB.block (w.heap.size + 1) (by omega)).trans BKr2
      have hbw3 := hbw2.trans (HB.mono (by omega))
      have hz3 : w1.heap.size < w'.heap.size := chan_size hcc
      cases l with
      | nil =>
        refine OpsK.sel_none (c := w1.heap.size) (z := .int .i64 0) (cap := 32) (s := s) (r := 0) hk rfl rfl (by simp [go_sem, execOp, rcase, Act.eval]) hcc ?_
        refine OpsK.op (v := .int .i64 (-1)) (w' := w') rfl rfl (by simp [go_sem, execOp, Act.eval, Act.put, goInt]) ?_
        refine OpsK.op (v := .bool false) (w' := w') rfl rfl (by simp [go_sem, execOp, Act.eval, Act.put]) ?_
        refine OpsK.nil ?_
        have hcz0 : w'.cell? ⟨w.heap.size + 1, 0, none⟩ = some (.int .i64 0) := (blk_cell BKr3 0).trans rfl
        have hcz1 : w'.cell? ⟨w.heap.size + 1, 1, none⟩ = some (.slice none 0 0) := (blk_cell BKr3 1).trans rfl
        have hfz0 := blk_frozen BKr3 0
        have hfz1 := blk_frozen BKr3 1
        have HBKr := Lib.hid BKr3
        have Hbw := Lib.hid hbw3
        clear BKp2 BKr2 BKp3 BKr3 hcc HB hbw2 hbw3 hch
        refine WpK.block (WpK.of_wp ?_)
        go_wp2
        refine bodyPost_ret (results_ctt rfl _ _ (w.heap.size + 1) 24 #[.int .i64 0, .slice none 0 0] (0, 0) _ rfl (by refine blk_put (cs := #[.int .i64 0, .slice none 0 0]) ?_ 1 _ rfl; refine blk_put (cs := #[.int .i64 0, .slice none 0 0]) ?_ 0 _ rfl; exact HBKr.out) Tryd.underlying24 rfl (by kernel_rfl)) rfl ?_
        exact ⟨_, rfl, Kd.R_nil _ _ _ _ _, (Hbw.out.setCell (by simp) _).setCell (by simp) _⟩
      | cons x t =>
        have hx : 0 < (vals (x :: t)).size := by simp [vals]
        refine OpsK.sel_buf (c := w1.heap.size) (z := .int .i64 0) (cap := 32) (s := s) (r := 0) hk rfl rfl (by simp [go_sem, execOp, rcase, Act.eval]) hcc hx ?_
        rw [vals_getD, vals_tail]
        refine OpsK.op (v := .int .i64 0) (w' := w'.setChan w1.heap.size 32 (vals t) false s (0 + 1) false) rfl rfl (by simp [go_sem, execOp, Act.eval, Act.put, goInt]) ?_
        refine OpsK.op (v := .bool true) (w' := w'.setChan w1.heap.size 32 (vals t) false s (0 + 1) false) rfl rfl (by simp [go_sem, execOp, Act.eval, Act.put]) ?_
        refine OpsK.nil ?_
        have hc2 := heap_setChan w' w1.heap.size 32 (vals t) false s (0 + 1) false (chan_size hcc)
        have HB2 := below_setChan (Below.refl w1.heap.size w') (Nat.le_refl _) 32 (vals t) false s (0 + 1) false
        have hz4 : w1.heap.size < (w'.setChan w1.heap.size 32 (vals t) false s (0 + 1) false).heap.size := by rw [size_setChan]; exact hz3
        generalize w'.setChan w1.heap.size 32 (vals t) false s (0 + 1) false = V at *
        have BKp4 := (HB2.block w.heap.size (by omega)).trans BKp3
        have BKr4 := (HB2.block (w.heap.size + 1) (by omega)).trans BKr3
        have hbw4 := hbw3.trans (HB2.mono (by omega))
        clear BKp2 BKr2 BKp3 BKr3 hcc HB HB2 hbw2 hbw3 hch hx
        have Hc := Lib.hid hc2
        have HBKp := Lib.hid BKp4
        have HBKr := Lib.hid BKr4
        have Hbw := Lib.hid hbw4
        have hp0 : V.cell? ⟨w.heap.size, 0, none⟩ = some (.int .i64 sz) := (blk_cell BKp4 0).trans rfl
        clear hc2 BKp4 BKr4 hbw4
        clear hK K
        refine WpK.block (WpK.of_wp ?_)
        go_wp2
        go_region_held3 (fun w' => w'.cell? ⟨w.heap.size, 0, none⟩ = some (.int .i64 sz))
          (first | assumption | go_keep)
          (first | (go_at_call 33; refine (drained_any w1.heap.size 32 t (by simp at hl; omega) s (0 + 1) V.drew Hc.out).mono ?_; rintro e w2 ⟨v, rfl, ho, hb⟩; obtain ⟨Ao, co, eo⟩ := Kd.R_slice ho; subst eo; have hp2 : w2.cell? ⟨w.heap.size, 0, none⟩ = some (.int .i64 sz) := (hb.cell (p := ⟨w.heap.size, 0, none⟩) (by show w.heap.size < w1.heap.size; omega)).trans hp0; have BK2 := (hb.block (w.heap.size + 1) (by omega)).trans HBKr.out; have hcz0 : w2.cell? ⟨w.heap.size + 1, 0, none⟩ = some (.int .i64 0) := (blk_cell BK2 0).trans rfl; have hcz1 : w2.cell? ⟨w.heap.size + 1, 1, none⟩ = some (.slice none 0 0) := (blk_cell BK2 1).trans rfl; have hfz0 := blk_frozen BK2 0; have hfz1 := blk_frozen BK2 1; have HBK2 := Lib.hid BK2; clear BK2))
        go_wp2_with fail
        refine bodyPost_ret (results_ctt rfl _ _ (w.heap.size + 1) 24 #[.int .i64 sz, .slice Ao t.length co] (0, 0) _ rfl (by refine blk_put (cs := #[.int .i64 sz, .slice none 0 0]) ?_ 1 _ rfl; refine blk_put (cs := #[.int .i64 0, .slice none 0 0]) ?_ 0 _ rfl; exact HBK2.out) Tryd.underlying24 rfl (by kernel_rfl)) rfl ?_
        have hzd : V.drew.heap.size = V.heap.size := rfl
        have hbw2 : Below w.heap.size w V.drew := Hbw.out.drew
        refine ⟨_, rfl, far2 ho (by omega) (by omega) _ _ _ _, ((hbw2.trans (hb.mono (by omega))).setCell (by simp) _).setCell (by simp) _⟩
end Go.Proofs.YtompoghbdpfdjaaDoor
