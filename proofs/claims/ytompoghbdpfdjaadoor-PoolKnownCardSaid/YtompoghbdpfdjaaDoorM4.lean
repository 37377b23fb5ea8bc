/- The contracts of pool.New at a size that is allowed, and of the homes. No condition beyond the size's bounds. -/
import Derived.Test.YtompoghbdpfdjaaDoorM3
namespace Go.Proofs.YtompoghbdpfdjaaDoor
open Go.RowKit Go.Conc Go.Proofs.YtompoghbdpfdjaaDoorW.PrintWords Go.Proofs.YtompoghbdpfdjaaDoorW.PrintLast Go.Proofs.YtompoghbdpfdjaaDoorW.PrintMore
set_option linter.unusedVariables false
set_option linter.unusedSimpArgs false

theorem mkc (n : Nat) (hn : n ≤ 1000) (w : World) : (Instr.makeChan 52 (.int .i64 n)).run Tryd.prog w = .ok (.chan (some w.heap.size)) (w.alloc (.chan n #[] false 0 0 false)) := by
  obtain ⟨i, hi, hb⟩ : ∃ i, Tryd.prog.info? 3 = some i ∧ i.bytes = 8 := by
    have h : (Tryd.prog.info? 3).map (·.bytes) = some 8 := by kernel_rfl
    obtain ⟨i, hi, hb⟩ := Option.map_eq_some_iff.1 h
    exact ⟨i, hi, hb⟩
  exact run_makeChan (P := Tryd.prog) (w := w) Tryd.underlying52 hi .i64 n (by omega) (by rw [hb]; omega)
/-- 0, 1, .. below n -/
def upto (n : Nat) : List Int := (List.range n).map (fun i : Nat => (i : Int))
theorem upto_succ (n : Nat) : upto (n + 1) = upto n ++ [(n : Int)] := by simp [upto, List.range_succ]
theorem upto_len (n : Nat) : (upto n).length = n := by simp [upto]
/-- a list that the call has made, behind two stores into an elder box -/
theorem far2 {w1 : World} {B B0 g : Nat} {v : Value} {l : List Int} (h : Kd.R (Kd.int .i64) 3 w1 B (fun _ => True) v l) (hg : g < B) (hB : B0 ≤ B) (i j : Nat) (x y : Value) :
    Kd.R (Kd.int .i64) 3 ((w1.setCell ⟨g, i, none⟩ x).setCell ⟨g, j, none⟩ y) B0 (fun _ => True) v l := by
  have h1 := Kd.R_far (p := ⟨g, i, none⟩) (Kd.R_bound h) (fun k hk => by have := hk.2.1; show k ≠ g; omega) x
  have h2 := Kd.R_far (p := ⟨g, j, none⟩) h1 (fun k hk => by have := hk.2.1; show k ≠ g; omega) y
  exact Kd.R_lower (Kd.R_mono h2 (fun _ _ => trivial)) hB
/-- what the loop of New keeps -/
def NwI (c n gb : Nat) (w : World) (a : Act) (w' : World) : Prop :=
  ∃ (k : Nat) (x1 x5 x6 x7 x8 x9 x10 x11 x12 x13 x14 x17 x18 x19 x20 x21 x22 x23 x24 x25 : Value) (s : Nat), a = ⟨#[.int .i64 n, x1, .pointer (some ⟨gb, 0, none⟩), .int .i64 0, .chan (some c), x5, x6, x7, x8, x9, x10, x11, x12, x13, x14, .int .i64 n, .int .i64 k, x17, x18, x19, x20, x21, x22, x23, x24, x25], []⟩ ∧ k ≤ n ∧
    w'.heap[c]? = some (.chan n (vals (upto k)) false s 0 false) ∧ Below c w w'
def NwM (n : Nat) (a : Act) (_ : World) : Nat := n - (intOf (a.tmps.getD 16 undef)).toNat
set_option maxHeartbeats 2000000 in
set_option maxRecDepth 100000 in
theorem new_good (n : Nat) (h1 : 1 ≤ n) (h2 : n ≤ 32) (w : World) :
    Calls Tryd.prog 9 #[.int .i64 n] w fun e w' => ∃ v, e = .returned (.tuple #[.agg #[.int .i64 n, v], .int .i64 0]) ∧ Kd.R (Kd.int .i64) 3 w' w.heap.size (fun _ => True) v (upto n) ∧ Below w.heap.size w w' := by
  refine calls_of_wpK Tryd.func9 rfl (fun b hk => ?_)
  simp only [Tryd.ntmps9, List.size_toArray, List.length_cons, List.length_nil, Nat.reduceAdd, Nat.reduceSub, Array.replicate_succ, Array.replicate_zero, List.push_toArray, List.append_toArray, List.nil_append, List.cons_append]
  have hmk := mkc n (by omega)
  refine WpK.seq_wp (fun K hK => ?_)
  go_wp2
  refine WpK.seq_wp (fun K hK => ?_)
  go_wp2
  refine WpK.seq_wp (fun K hK => ?_)
  go_wp2
  refine WpK.seq (WpK.seq_wp (fun K hK => ?_))
  go_wp2
  have hbox : ((w.alloc (.cells #[.int .i64 0, .slice none 0 0] 24)).alloc (.chan n #[] false 0 0 false)).heap[w.heap.size]? = some (.cells #[.int .i64 0, .slice none 0 0] 24 (0, 0)) := by
    rw [Below.heap_alloc _ _ _ (by simp)]
    exact heap_alloc_new w _
  have hch : ((w.alloc (.cells #[.int .i64 0, .slice none 0 0] 24)).alloc (.chan n #[] false 0 0 false)).heap[w.heap.size + 1]? = some (.chan n #[] false 0 0 false) := by
    have := heap_alloc_new (w.alloc (.cells #[.int .i64 0, .slice none 0 0] 24)) (.chan n #[] false 0 0 false)
    simpa only [World.size_alloc] using this
  have hbl : Below w.heap.size w ((w.alloc (.cells #[.int .i64 0, .slice none 0 0] 24)).alloc (.chan n #[] false 0 0 false)) := ((Below.refl _ _).alloc (Nat.le_refl _) _).alloc (by simp) _
  clear hmk
  generalize (w.alloc (.cells #[.int .i64 0, .slice none 0 0] 24)).alloc (.chan n #[] false 0 0 false) = W at *
  refine WpK.block (WpK.loop (NwI (w.heap.size + 1) n w.heap.size W) (NwM n) ?_ ?_)
  · exact ⟨0, _, _, _, _, _, _, _, _, _, _, _, _, _, _, _, _, _, _, _, _, 0, rfl, Nat.zero_le _, hch, Below.refl _ _⟩
  · rintro a w' ⟨k, x1, x5, x6, x7, x8, x9, x10, x11, x12, x13, x14, x17, x18, x19, x20, x21, x22, x23, x24, x25, s, rfl, hkn, hc, HB⟩
    refine WpK.seq_wp (fun K hK => ?_)
    go_wp2
    by_cases hlt : k < n
    · have hd : ((k : Int) < (n : Int)) := by omega
      have hd2 : decide ((k : Int) < (n : Int)) = true := decide_eq_true hd
      refine WpK.seq_wp (fun K hK => ?_)
      go_wp2
      refine WpK.seq (WpK.block (WpK.seq_wp (fun K hK => ?_)))
      go_wp2
      refine WpK.region ?_
      show OpsK _ _ _ _ [0, 1, 2] _ _
      refine OpsK.op (v := .chan (some (w.heap.size + 1))) (w' := w') rfl rfl (by simp [go_sem, execOp, Act.eval, Act.put]) ?_
      refine OpsK.op (v := .int .i64 k) (w' := w') rfl rfl (by simp [go_sem, execOp, Act.eval, Act.put]) ?_
      refine OpsK.send (c := w.heap.size + 1) (v := .int .i64 k) (z' := .tuple #[]) hk rfl rfl (by simp [go_sem, execOp, scase, Act.eval, Act.put]) hc (by rw [vals_size, upto_len]; exact hlt) ?_
      rw [vals_push, ← upto_succ]
      refine OpsK.nil ?_
      have hc2 := heap_setChan w' (w.heap.size + 1) n (vals (upto (k + 1))) false (s + 1) 0 false (chan_size hc)
      have HB2 := below_setChan HB (Nat.le_refl _) n (vals (upto (k + 1))) false (s + 1) 0 false
      generalize w'.setChan (w.heap.size + 1) n (vals (upto (k + 1))) false (s + 1) 0 false = W2 at *
      have Hc := Lib.hid hc2
      have HB3 := Lib.hid HB2
      clear hc2 HB2 hc HB
      refine WpK.of_wp ?_
      go_wp2
      refine ⟨⟨k + 1, _, _, _, _, _, _, _, _, _, _, _, _, _, _, _, _, _, _, _, _, s + 1, rfl, by omega, Hc.out, HB3.out⟩, ?_⟩
      simp [NwM, intOf]
      omega
    · obtain rfl : k = n := by omega
      have hd2 : decide ((k : Int) < (k : Int)) = false := decide_eq_false (by omega)
      refine WpK.seq_wp (fun K hK => ?_)
      go_wp2
      refine WpK.of_wp ?_
      have hz : w.heap.size + 1 ≤ w'.heap.size := Nat.le_of_lt (chan_size hc)
      have BK := (HB.block w.heap.size (by omega)).trans hbox
      have hbW := hbl.trans (HB.mono (Nat.le_succ _))
      have Hc := Lib.hid hc
      have HbW := Lib.hid hbW
      have HBK := Lib.hid BK
      clear hc hbW BK HB hch hbl hbox
      go_wp2_with (go_at_call 33; refine (drained_any (w.heap.size + 1) k (upto k) (by rw [upto_len]; omega) s 0 w' Hc.out).mono ?_; rintro e w1 ⟨v, rfl, ho, hb⟩; obtain ⟨Ao, co, eo⟩ := Kd.R_slice ho; subst eo; have BK1 := (hb.block w.heap.size (Nat.lt_succ_self _)).trans HBK.out; have hcz0 : w1.cell? ⟨w.heap.size, 0, none⟩ = some (.int .i64 0) := (blk_cell BK1 0).trans rfl; have hcz1 : w1.cell? ⟨w.heap.size, 1, none⟩ = some (.slice none 0 0) := (blk_cell BK1 1).trans rfl; have hfz0 := blk_frozen BK1 0; have hfz1 := blk_frozen BK1 1; have HBK1 := Lib.hid BK1; clear BK1)
      refine bodyPost_ret (results_ct rfl _ _ w.heap.size 24 #[.int .i64 k, .slice Ao (upto k).length co] (0, 0) _ rfl (by refine blk_put (cs := #[.int .i64 k, .slice none 0 0]) ?_ 1 _ rfl; refine blk_put (cs := #[.int .i64 0, .slice none 0 0]) ?_ 0 _ rfl; exact HBK1.out) Tryd.underlying24 rfl (by kernel_rfl)) rfl ?_
      exact ⟨_, rfl, far2 ho (by omega) (by omega) _ _ _ _, (((HbW.out.trans (hb.mono (Nat.le_succ _))).setCell (Nat.le_refl _) _).setCell (Nat.le_refl _) _)⟩

/-- a home -/
theorem of_any (d : Int) (h0 : 0 ≤ d) (h1 : d ≤ 1000) (x y : Int) (w : World) :
    Calls Tryd.prog 35 #[.agg #[.int .i64 x, .int .i64 y], .int .i64 d] w fun e w' => e = .returned (.agg #[.int .i64 (d / 8), .int .i64 (d % 8)]) ∧ Below w.heap.size w w' := by
  go_enter Tryd.func35, Tryd.ntmps35
  go_wp2
  refine bodyPost_ret (v := .agg #[.int .i64 (d / 8), .int .i64 (d % 8)]) (by simp [results, Tryd.results35, go_sem]) rfl ⟨rfl, ((Below.refl _ _).alloc (Nat.le_refl _) _).alloc (by simp) _⟩
theorem new_bad (a : Int) (h : a < 1 ∨ 32 < a) (w : World) :
    Calls Tryd.prog 9 #[.int .i64 a] w fun e w' => e = .returned (.tuple #[.agg #[.int .i64 0, .slice none 0 0], .int .i64 2]) ∧ Below w.heap.size w w' := by
  rcases h with h | h
  · go_enter Tryd.func9, Tryd.ntmps9
    go_wp2
    exact bodyPost_ret (v := .tuple #[.agg #[.int .i64 0, .slice none 0 0], .int .i64 2]) (by simp [results, Tryd.results9, go_sem]) rfl ⟨rfl, (Below.refl _ _).alloc (Nat.le_refl _) _⟩
  · have h' : ¬ a < 1 := by omega
    go_enter Tryd.func9, Tryd.ntmps9
    go_wp2
    exact bodyPost_ret (v := .tuple #[.agg #[.int .i64 0, .slice none 0 0], .int .i64 2]) (by simp [results, Tryd.results9, go_sem]) rfl ⟨rfl, (Below.refl _ _).alloc (Nat.le_refl _) _⟩
theorem frames_bad (a : Int) (h : a < 1 ∨ 32 < a) (w : World) :
    Calls Tryd.prog 11 #[.int .i64 a] w fun e w' => e = .returned (.tuple #[.int .i64 0, .int .i64 2]) ∧ Below w.heap.size w w' := by
  rcases h with h | h
  · go_enter Tryd.func11, Tryd.ntmps11
    go_wp2
    go_ret2
    exact ⟨rfl, Below.refl _ _⟩
  · have h' : ¬ a < 1 := by omega
    go_enter Tryd.func11, Tryd.ntmps11
    go_wp2
    go_ret2
    exact ⟨rfl, Below.refl _ _⟩
theorem frames_good (a : Int) (h1 : 1 ≤ a) (h2 : a ≤ 32) (w : World) :
    Calls Tryd.prog 11 #[.int .i64 a] w fun e w' => e = .returned (.tuple #[.int .i64 ((a - 1) / 8 + 1), .int .i64 0]) ∧ Below w.heap.size w w' := by
  have h' : ¬ a < 1 := by omega
  have h0 : 0 ≤ a - 1 := by omega
  have i0 : ∀ (x y : Int) (w : World), (Instr.index 55 (.agg #[.int .i64 x, .int .i64 y]) (.int .i64 0)).run Tryd.prog w = .ok (.int .i64 x) w := fun _ _ _ => by kernel_rfl
  go_enter Tryd.func11, Tryd.ntmps11
  go_wp2_with (go_at_call 35; refine (of_any (a - 1) h0 (by omega) 0 0 _).mono ?_; rintro e w1 ⟨rfl, hb1⟩)
  go_ret2
  exact ⟨rfl, hb1⟩
end Go.Proofs.YtompoghbdpfdjaaDoor
