/- The contract of PoolKnown. Condition: the table of math/bits as it is laid. -/
import Derived.Test.YtompoghbdpfdjaaDoorPAx7
import Derived.Test.YtompoghbdpfdjaaDoorM10
namespace Go.Proofs.YtompoghbdpfdjaaDoor
open Go.RowKit Go.Conc Go.Proofs.YtompoghbdpfdjaaDoorW.PrintWords Go.Proofs.YtompoghbdpfdjaaDoorW.PrintLast Go.Proofs.YtompoghbdpfdjaaDoorW.PrintMore
set_option linter.unusedVariables false
set_option linter.unusedSimpArgs false

theorem WpK.forget {P : Program} {b : Frame} {c : Code} {Q : Exit → Act → World → Prop} {a : Act} {W : World} (R : World → Prop) (hR : R W) (h : ∀ W', R W' → WpK P b c Q a W') : WpK P b c Q a W := h W hR
theorem c_lit (w : World) (g : Nat) (l : List Int) (h : w.heap[g]? = some (.cells (vals l) 3 (0, 0))) (hl : l.length ≤ 1000) : Kd.C (Kd.int .i64) w (some ⟨g, 0, none⟩) l.length l := by
  refine Kd.C_of_reads (d := (0 : Int)) (h1 := fun _ => rfl) ⟨rfl, by omega, fun _ => ⟨⟨g, 0, none⟩, rfl, fun j hj => ?_⟩⟩
  have := blk_cell h j
  have ea : (⟨g, 0, none⟩ : Addr).add j = ⟨g, j, none⟩ := by unfold Addr.add; split <;> simp_all
  rw [ea]
  simp only [vals, List.getElem?_toArray, List.getElem?_map] at this ⊢
  rw [this, List.getElem?_eq_getElem hj]
  simp [List.getD_eq_getElem?_getD, List.getElem?_eq_getElem hj]
theorem c_new (w : World) (l : List Int) (hl : l.length ≤ 1000) : Kd.C (Kd.int .i64) (w.alloc (.cells (vals l) 3)) (some ⟨w.heap.size, 0, none⟩) l.length l := c_lit _ _ l (heap_alloc_new w _) hl
theorem kc {w w1 : World} {a : Addr} {v : Value} (hb : Below w.heap.size w w1) (h : w.cell? a = some v) : w1.cell? a = some v := by
  rw [hb.cell (World.block_lt_of_cell? w _ h)]; exact h
theorem ka {w : World} {a : Addr} {v : Value} (h : w.cell? a = some v) (o : Obj) : (w.alloc o).cell? a = some v := kc ((Below.refl _ _).alloc (Nat.le_refl _) o) h
theorem fr_any (A : Option Addr) (n c : Nat) (w : World) : Calls Tryd.prog 29 #[.slice A n c] w fun e w' => e = .returned (.agg #[.int .i64 3, .slice A n c]) ∧ Below w.heap.size w w' := by
  go_enter Tryd.func29, Tryd.ntmps29
  go_wp2
  exact bodyPost_ret (v := .agg #[.int .i64 3, .slice A n c]) (by simp [results, Tryd.results29, go_sem]) rfl ⟨rfl, by repeat (first | exact Below.refl _ _ | refine Below.alloc ?_ (by simp <;> omega) _ | refine Below.setCell ?_ (by simp <;> omega) _)⟩
theorem frm_true (a b : Int) (h1 : 1 ≤ a) (h2 : a ≤ 32) (hb : ((a - 1) / 8 + 1 == b) = true) (w : World) : Calls Tryd.prog 30 #[.int .i64 a, .int .i64 b] w fun e w' => e = .returned (.bool true) ∧ Below w.heap.size w w' := by
  go_enter Tryd.func30, Tryd.ntmps30
  go_wp2_with (go_at_call 11; refine (frames_good a h1 h2 _).mono ?_; rintro e u ⟨rfl, hu⟩)
  go_ret
  exact ⟨by first | rfl | simp, hu⟩
set_option maxHeartbeats 8000000 in
set_option maxRecDepth 100000 in
theorem known_any (w : World) (gc : GC w) : Calls Tryd.prog 6 #[] w fun e w' => e = .returned (.bool true) ∧ Below w.heap.size w w' := by
  refine calls_of_wpK Tryd.func6 rfl (fun b hk => ?_)
  simp only [Tryd.ntmps6, List.size_toArray, List.length_cons, List.length_nil, Nat.reduceAdd, Nat.reduceSub, Array.replicate_succ, Array.replicate_zero, List.push_toArray, List.append_toArray, List.nil_append, List.cons_append]
  have HG0 := Lib.hid gc
  have hb0 := Below.refl w.heap.size w
  clear gc
  refine WpK.seq_wp (fun K hK => ?_)
  go_wp2
  refine WpK.seq_wp (fun K hK => ?_)
  go_wp2_with (go_at_call 11; refine (PA.pool_Frames.calls 33 0 2 _ rfl).mono ?_; rintro e u1 ⟨rfl, hu1⟩)
  refine WpK.forget (fun W => GC W ∧ Below w.heap.size w W) ⟨gcB HG0.out hu1, hu1⟩ (fun w1 hw1 => ?_)
  obtain ⟨hg1, hb1⟩ := hw1
  have HG1 := Lib.hid hg1
  clear hg1 HG0 hb0 hu1
  refine WpK.seq_wp (fun K hK => ?_)
  have hs2 : w.heap.size ≤ w1.heap.size := hb1.size
  have hcn := c_new w1 [1, 2] (by decide)
  have HCN := Lib.hid hcn
  clear hcn
  go_wp2_with (first
    | (go_at_call 29; refine (fr_any (some ⟨w1.heap.size, 0, none⟩) 2 2 _).mono ?_; rintro e u1 ⟨rfl, hu1⟩; have hC := Kd.C_below HCN.out hu1)
    | (go_at_call 18; refine (PA.pool_Take.calls 0 3 _ 2 [1, 2] 3 [2] 1 0 _ hC (by decide) rfl).mono ?_; rintro e u2 ⟨v, rfl, ho, hu2⟩; obtain ⟨A3, c3, hv, hc3, hC3⟩ := Kd.R_reads ho; subst hv))
  obtain ⟨g3, hg3⟩ : ∃ g, g = u2.heap.size := ⟨_, rfl⟩
  rw [← hg3]
  have hbx := one_box u2 #[.int .i64 3, .slice A3 1 c3] 24
  rw [← hg3] at hbx
  have hx : Below w1.heap.size w1 u2 := (((Below.refl w1.heap.size w1).alloc (Nat.le_refl _) _).trans (hu1.mono (by first | exact Nat.le_refl _ | simp))).trans (hu2.mono (by have := hu1.size; (try simp at this); omega))
  have hx2 := hx.alloc hx.size (.cells #[.int .i64 3, .slice A3 1 c3] 24)
  refine WpK.forget (fun W => GC W ∧ Below w.heap.size w W ∧ Kd.C (Kd.int .i64) W A3 [(2 : Int)].length [2] ∧ W.heap[g3]? = some (.cells #[.int .i64 3, .slice A3 1 c3] 24 (0, 0))) ⟨gcB HG1.out hx2, hb1.trans (hx2.mono hs2), Kd.C_alloc hC3 _, hbx⟩ (fun w2 hw => ?_)
  obtain ⟨hg2, hb2, k3, q3⟩ := hw
  have HG2 := Lib.hid hg2
  have K3 := Lib.hid k3
  have Q3 := Lib.hid q3
  clear hg2 HG1 hb1 hu1 hu2 hx hx2 hbx hC hC3 ho HCN k3 q3 hg3
  refine WpK.seq_wp (fun K hK => ?_)
  have hs3 : w.heap.size ≤ w2.heap.size := hb2.size
  have hcn := c_new w2 [2] (by decide)
  have HCN := Lib.hid hcn
  clear hcn
  go_wp2_with (first
    | (go_at_call 29; refine (fr_any (some ⟨w2.heap.size, 0, none⟩) 1 1 _).mono ?_; rintro e u1 ⟨rfl, hu1⟩; have hC := Kd.C_below HCN.out hu1)
    | (go_at_call 20; refine (PA.pool_Give.calls 0 3 _ 1 [2] 2 0 [] 7 _ hC (by decide) rfl (gcB (gcB HG2.out ((Below.refl _ _).alloc (Nat.le_refl _) _)) hu1)).mono ?_; rintro e u2 ⟨v, rfl, ho, hu2⟩; obtain ⟨Ax, cx, hv⟩ := Kd.R_slice ho; subst hv; clear ho))
  have hx : Below w2.heap.size w2 u2 := (((Below.refl w2.heap.size w2).alloc (Nat.le_refl _) _).trans (hu1.mono (by first | exact Nat.le_refl _ | simp))).trans (hu2.mono (by have := hu1.size; (try simp at this); omega))
  have hx2 := hx.alloc hx.size (.cells #[.int .i64 0, .slice Ax 0 cx] 24)
  refine WpK.forget (fun W => GC W ∧ Below w.heap.size w W ∧ Kd.C (Kd.int .i64) W A3 [(2 : Int)].length [2] ∧ W.heap[g3]? = some (.cells #[.int .i64 3, .slice A3 1 c3] 24 (0, 0))) ⟨gcB HG2.out hx2, hb2.trans (hx2.mono hs3), Kd.C_below K3.out hx2, (hx2.block g3 (blk_lt Q3.out)).trans Q3.out⟩ (fun w3 hw => ?_)
  obtain ⟨hg3, hb3, k3, q3⟩ := hw
  have HG3 := Lib.hid hg3
  clear K3 Q3
  have K3 := Lib.hid k3
  have Q3 := Lib.hid q3
  clear hg3 HG2 hb2 hu1 hu2 hx hx2 hC HCN k3 q3
  refine WpK.seq_wp (fun K hK => ?_)
  have hs4 : w.heap.size ≤ w3.heap.size := hb3.size
  have hcn := c_new w3 [2] (by decide)
  have HCN := Lib.hid hcn
  clear hcn
  go_wp2_with (first
    | (go_at_call 29; refine (fr_any (some ⟨w3.heap.size, 0, none⟩) 1 1 _).mono ?_; rintro e u1 ⟨rfl, hu1⟩; have hC := Kd.C_below HCN.out hu1)
    | (go_at_call 20; refine (PA.pool_Give.calls 0 3 _ 1 [2] 3 0 [] 2 _ hC (by decide) rfl (gcB (gcB HG3.out ((Below.refl _ _).alloc (Nat.le_refl _) _)) hu1)).mono ?_; rintro e u2 ⟨v, rfl, ho, hu2⟩; obtain ⟨Ay, cy, hv⟩ := Kd.R_slice ho; subst hv; clear ho))
  have hx : Below w3.heap.size w3 u2 := (((Below.refl w3.heap.size w3).alloc (Nat.le_refl _) _).trans (hu1.mono (by first | exact Nat.le_refl _ | simp))).trans (hu2.mono (by have := hu1.size; (try simp at this); omega))
  have hx2 := hx.alloc hx.size (.cells #[.int .i64 0, .slice Ay 0 cy] 24)
  refine WpK.forget (fun W => GC W ∧ Below w.heap.size w W ∧ Kd.C (Kd.int .i64) W A3 [(2 : Int)].length [2] ∧ W.heap[g3]? = some (.cells #[.int .i64 3, .slice A3 1 c3] 24 (0, 0))) ⟨gcB HG3.out hx2, hb3.trans (hx2.mono hs4), Kd.C_below K3.out hx2, (hx2.block g3 (blk_lt Q3.out)).trans Q3.out⟩ (fun w4 hw => ?_)
  obtain ⟨hg4, hb4, k3, q3⟩ := hw
  have HG4 := Lib.hid hg4
  clear K3 Q3
  have K3 := Lib.hid k3
  have Q3 := Lib.hid q3
  clear hg4 HG3 hb3 hu1 hu2 hx hx2 hC HCN k3 q3
  refine WpK.seq_wp (fun K hK => ?_)
  have hs5 : w.heap.size ≤ w4.heap.size := hb4.size
  have hcn := c_new w4 [2] (by decide)
  have HCN := Lib.hid hcn
  clear hcn
  go_wp2_with (first
    | (go_at_call 29; refine (fr_any (some ⟨w4.heap.size, 0, none⟩) 1 1 _).mono ?_; rintro e u1 ⟨rfl, hu1⟩; have hC := Kd.C_below HCN.out hu1)
    | (go_at_call 22; refine (PA.pool_Left.calls 10 3 _ 1 [2] 1 0 _ hC (by decide) (by decide +kernel)).mono ?_; rintro e u2 ⟨rfl, hu2⟩))
  have hx : Below w4.heap.size w4 u2 := (((Below.refl w4.heap.size w4).alloc (Nat.le_refl _) _).trans (hu1.mono (by first | exact Nat.le_refl _ | simp))).trans (hu2.mono (by have := hu1.size; (try simp at this); omega))
  refine WpK.forget (fun W => GC W ∧ Below w.heap.size w W ∧ Kd.C (Kd.int .i64) W A3 [(2 : Int)].length [2] ∧ W.heap[g3]? = some (.cells #[.int .i64 3, .slice A3 1 c3] 24 (0, 0))) ⟨gcB HG4.out hx, hb4.trans (hx.mono hs5), Kd.C_below K3.out hx, (hx.block g3 (blk_lt Q3.out)).trans Q3.out⟩ (fun w5 hw => ?_)
  obtain ⟨hg5, hb5, k3, q3⟩ := hw
  have HG5 := Lib.hid hg5
  clear K3 Q3
  have K3 := Lib.hid k3
  have Q3 := Lib.hid q3
  clear hg5 HG4 hb4 hu1 hu2 hx  hC HCN k3 q3
  refine WpK.seq_wp (fun K hK => ?_)
  have hs6 : w.heap.size ≤ w5.heap.size := hb5.size
  have hcl : ∀ u : World, Kd.C (Kd.int .i64) u none ([] : List Int).length [] := fun u => Kd.C_nil _ u
  go_wp2_with (first
    | (go_at_call 29; refine (fr_any none 0 0 _).mono ?_; rintro e u1 ⟨rfl, hu1⟩; have hC := hcl u1)
    | (go_at_call 18; refine (PA.pool_Take.calls 0 3 none 0 [] 0 [] 0 5 _ hC (by decide) rfl).mono ?_; rintro e u2 ⟨v, rfl, ho, hu2⟩; obtain ⟨Az, cz, hv⟩ := Kd.R_slice ho; subst hv; clear ho))
  have hx : Below w5.heap.size w5 u2 := (((Below.refl w5.heap.size w5)).trans (hu1.mono (by first | exact Nat.le_refl _ | simp))).trans (hu2.mono (by have := hu1.size; (try simp at this); omega))
  have hx2 := hx.alloc hx.size (.cells #[.int .i64 0, .slice Az 0 cz] 24)
  refine WpK.forget (fun W => GC W ∧ Below w.heap.size w W ∧ Kd.C (Kd.int .i64) W A3 [(2 : Int)].length [2] ∧ W.heap[g3]? = some (.cells #[.int .i64 3, .slice A3 1 c3] 24 (0, 0))) ⟨gcB HG5.out hx2, hb5.trans (hx2.mono hs6), Kd.C_below K3.out hx2, (hx2.block g3 (blk_lt Q3.out)).trans Q3.out⟩ (fun w6 hw => ?_)
  obtain ⟨hg6, hb6, k3, q3⟩ := hw
  have HG6 := Lib.hid hg6
  clear K3 Q3
  have K3 := Lib.hid k3
  have Q3 := Lib.hid q3
  clear hg6 HG5 hb5 hu1 hu2 hx hx2 hC hcl k3 q3
  refine WpK.seq_wp (fun K hK => ?_)
  have hs7 : w.heap.size ≤ w6.heap.size := hb6.size
  go_wp2_with (go_at_call 9; refine (PA.pool_New.calls 0 9 9 [0, 1, 2, 3, 4, 5, 6, 7, 8] 0 _ rfl).mono ?_; rintro e u2 ⟨v, rfl, ho, hu2⟩; obtain ⟨A15, c15, hv, hc15, hC15⟩ := Kd.R_reads ho; subst hv)
  obtain ⟨g15, hg15⟩ : ∃ g, g = u2.heap.size := ⟨_, rfl⟩
  rw [← hg15]
  have hbx := one_box u2 #[.int .i64 9, .slice A15 9 c15] 24
  rw [← hg15] at hbx
  have hx2 := hu2.alloc hu2.size (.cells #[.int .i64 9, .slice A15 9 c15] 24)
  refine WpK.forget (fun W => GC W ∧ Below w.heap.size w W ∧ Kd.C (Kd.int .i64) W A3 [(2 : Int)].length [2] ∧ W.heap[g3]? = some (.cells #[.int .i64 3, .slice A3 1 c3] 24 (0, 0)) ∧ Kd.C (Kd.int .i64) W A15 [(0 : Int), 1, 2, 3, 4, 5, 6, 7, 8].length [0, 1, 2, 3, 4, 5, 6, 7, 8] ∧ W.heap[g15]? = some (.cells #[.int .i64 9, .slice A15 9 c15] 24 (0, 0))) ⟨gcB HG6.out hx2, hb6.trans (hx2.mono hs7), Kd.C_below K3.out hx2, (hx2.block g3 (blk_lt Q3.out)).trans Q3.out, Kd.C_alloc hC15 _, hbx⟩ (fun w7 hw => ?_)
  obtain ⟨hg7, hb7, k3, q3, k15, q15⟩ := hw
  clear K3 Q3
  have HG7 := Lib.hid hg7
  have K3 := Lib.hid k3
  have Q3 := Lib.hid q3
  have K15 := Lib.hid k15
  have Q15 := Lib.hid q15
  clear hg7 HG6 hb6 hu2 hx2 hbx hC15 ho k3 q3 k15 q15 hg15
  refine WpK.seq_wp (fun K hK => ?_)
  have hs8 : w.heap.size ≤ w7.heap.size := hb7.size
  have z0 : w7.cell? ⟨g15, 0, none⟩ = some (.int .i64 9) := (blk_cell Q15.out 0).trans rfl
  have z1 : w7.cell? ⟨g15, 1, none⟩ = some (.slice A15 9 c15) := (blk_cell Q15.out 1).trans rfl
  go_wp2_with (go_at_call 26; refine (PA.pool_Home.calls 0 9 A15 c15 [0, 1, 2, 3, 4, 5, 6, 7, 8] 8 1 0 0 _ K15.out hc15 (by decide +kernel)).mono ?_; rintro e u2 ⟨rfl, hu2⟩)
  refine WpK.forget (fun W => GC W ∧ Below w.heap.size w W ∧ Kd.C (Kd.int .i64) W A3 [(2 : Int)].length [2] ∧ W.heap[g3]? = some (.cells #[.int .i64 3, .slice A3 1 c3] 24 (0, 0)) ∧ Kd.C (Kd.int .i64) W A15 [(0 : Int), 1, 2, 3, 4, 5, 6, 7, 8].length [0, 1, 2, 3, 4, 5, 6, 7, 8] ∧ W.heap[g15]? = some (.cells #[.int .i64 9, .slice A15 9 c15] 24 (0, 0))) ⟨gcB HG7.out hu2, hb7.trans (hu2.mono hs8), Kd.C_below K3.out hu2, (hu2.block g3 (blk_lt Q3.out)).trans Q3.out, Kd.C_below K15.out hu2, (hu2.block g15 (blk_lt Q15.out)).trans Q15.out⟩ (fun w8 hw => ?_)
  obtain ⟨hg8, hb8, k3, q3, k15, q15⟩ := hw
  clear K3 Q3 K15 Q15 z0 z1
  have HG8 := Lib.hid hg8
  have K3 := Lib.hid k3
  have Q3 := Lib.hid q3
  have K15 := Lib.hid k15
  have Q15 := Lib.hid q15
  clear hg8 HG7 hb7 hu2 k3 q3 k15 q15
  refine WpK.seq_wp (fun K hK => ?_)
  have hs9 : w.heap.size ≤ w8.heap.size := hb8.size
  have z0 : w8.cell? ⟨g15, 0, none⟩ = some (.int .i64 9) := (blk_cell Q15.out 0).trans rfl
  have z1 : w8.cell? ⟨g15, 1, none⟩ = some (.slice A15 9 c15) := (blk_cell Q15.out 1).trans rfl
  go_wp2_with (go_at_call 26; refine (PA.pool_Home.calls 0 9 A15 c15 [0, 1, 2, 3, 4, 5, 6, 7, 8] 9 0 0 2 _ K15.out hc15 (by decide +kernel)).mono ?_; rintro e u2 ⟨rfl, hu2⟩)
  refine WpK.forget (fun W => GC W ∧ Below w.heap.size w W ∧ Kd.C (Kd.int .i64) W A3 [(2 : Int)].length [2] ∧ W.heap[g3]? = some (.cells #[.int .i64 3, .slice A3 1 c3] 24 (0, 0)) ∧ Kd.C (Kd.int .i64) W A15 [(0 : Int), 1, 2, 3, 4, 5, 6, 7, 8].length [0, 1, 2, 3, 4, 5, 6, 7, 8] ∧ W.heap[g15]? = some (.cells #[.int .i64 9, .slice A15 9 c15] 24 (0, 0))) ⟨gcB HG8.out hu2, hb8.trans (hu2.mono hs9), Kd.C_below K3.out hu2, (hu2.block g3 (blk_lt Q3.out)).trans Q3.out, Kd.C_below K15.out hu2, (hu2.block g15 (blk_lt Q15.out)).trans Q15.out⟩ (fun w9 hw => ?_)
  obtain ⟨hg9, hb9, k3, q3, k15, q15⟩ := hw
  clear K3 Q3 K15 Q15 z0 z1
  have HG9 := Lib.hid hg9
  have K3 := Lib.hid k3
  have Q3 := Lib.hid q3
  have K15 := Lib.hid k15
  have Q15 := Lib.hid q15
  clear hg9 HG8 hb8 hu2 k3 q3 k15 q15
  refine WpK.seq_wp (fun K hK => ?_)
  have hs10 : w.heap.size ≤ w9.heap.size := hb9.size
  have hcn := c_new w9 [2, 1] (by decide)
  have HCN := Lib.hid hcn
  clear hcn
  go_wp2_with (first
    | (go_at_call 29; refine (fr_any (some ⟨w9.heap.size, 0, none⟩) 2 2 _).mono ?_; rintro e u1 ⟨rfl, hu1⟩; have hC := Kd.C_below HCN.out hu1)
    | (go_at_call 16; refine (PA.pool_Check.calls 10 3 _ 2 [2, 1] 8 1 _ hC (by decide) (by decide +kernel)).mono ?_; rintro e u2 ⟨rfl, hu2⟩))
  have hx : Below w9.heap.size w9 u2 := (((Below.refl w9.heap.size w9).alloc (Nat.le_refl _) _).trans (hu1.mono (by first | exact Nat.le_refl _ | simp))).trans (hu2.mono (by have := hu1.size; (try simp at this); omega))
  refine WpK.forget (fun W => GC W ∧ Below w.heap.size w W ∧ Kd.C (Kd.int .i64) W A3 [(2 : Int)].length [2] ∧ W.heap[g3]? = some (.cells #[.int .i64 3, .slice A3 1 c3] 24 (0, 0)) ∧ Kd.C (Kd.int .i64) W A15 [(0 : Int), 1, 2, 3, 4, 5, 6, 7, 8].length [0, 1, 2, 3, 4, 5, 6, 7, 8] ∧ W.heap[g15]? = some (.cells #[.int .i64 9, .slice A15 9 c15] 24 (0, 0))) ⟨gcB HG9.out hx, hb9.trans (hx.mono hs10), Kd.C_below K3.out hx, (hx.block g3 (blk_lt Q3.out)).trans Q3.out, Kd.C_below K15.out hx, (hx.block g15 (blk_lt Q15.out)).trans Q15.out⟩ (fun w10 hw => ?_)
  obtain ⟨hg10, hb10, k3, q3, k15, q15⟩ := hw
  have HG10 := Lib.hid hg10
  clear K3 Q3 K15 Q15
  have K3 := Lib.hid k3
  have Q3 := Lib.hid q3
  have K15 := Lib.hid k15
  have Q15 := Lib.hid q15
  clear hg10 HG9 hb9 hu1 hu2 hx  hC HCN k3 q3 k15 q15
  refine WpK.seq_wp (fun K hK => ?_)
  have hs11 : w.heap.size ≤ w10.heap.size := hb10.size
  have hcn := c_new w10 [3] (by decide)
  have HCN := Lib.hid hcn
  clear hcn
  go_wp2_with (first
    | (go_at_call 29; refine (fr_any (some ⟨w10.heap.size, 0, none⟩) 1 1 _).mono ?_; rintro e u1 ⟨rfl, hu1⟩; have hC := Kd.C_below HCN.out hu1)
    | (go_at_call 16; refine (PA.pool_Check.calls 10 3 _ 1 [3] 2 0 _ hC (by decide) (by decide +kernel)).mono ?_; rintro e u2 ⟨rfl, hu2⟩))
  have hx : Below w10.heap.size w10 u2 := (((Below.refl w10.heap.size w10).alloc (Nat.le_refl _) _).trans (hu1.mono (by first | exact Nat.le_refl _ | simp))).trans (hu2.mono (by have := hu1.size; (try simp at this); omega))
  refine WpK.forget (fun W => GC W ∧ Below w.heap.size w W ∧ Kd.C (Kd.int .i64) W A3 [(2 : Int)].length [2] ∧ W.heap[g3]? = some (.cells #[.int .i64 3, .slice A3 1 c3] 24 (0, 0)) ∧ Kd.C (Kd.int .i64) W A15 [(0 : Int), 1, 2, 3, 4, 5, 6, 7, 8].length [0, 1, 2, 3, 4, 5, 6, 7, 8] ∧ W.heap[g15]? = some (.cells #[.int .i64 9, .slice A15 9 c15] 24 (0, 0))) ⟨gcB HG10.out hx, hb10.trans (hx.mono hs11), Kd.C_below K3.out hx, (hx.block g3 (blk_lt Q3.out)).trans Q3.out, Kd.C_below K15.out hx, (hx.block g15 (blk_lt Q15.out)).trans Q15.out⟩ (fun w11 hw => ?_)
  obtain ⟨hg11, hb11, k3, q3, k15, q15⟩ := hw
  have HG11 := Lib.hid hg11
  clear K3 Q3 K15 Q15
  have K3 := Lib.hid k3
  have Q3 := Lib.hid q3
  have K15 := Lib.hid k15
  have Q15 := Lib.hid q15
  clear hg11 HG10 hb10 hu1 hu2 hx  hC HCN k3 q3 k15 q15
  refine WpK.seq_wp (fun K hK => ?_)
  have hs12 : w.heap.size ≤ w11.heap.size := hb11.size
  have y0 : w11.cell? ⟨g3, 0, none⟩ = some (.int .i64 3) := (blk_cell Q3.out 0).trans rfl
  have y1 : w11.cell? ⟨g3, 1, none⟩ = some (.slice A3 1 c3) := (blk_cell Q3.out 1).trans rfl
  have hcn := c_new w11.drew [2] (by decide)
  have HCN := Lib.hid hcn
  have hk3 : Kd.C (Kd.int .i64) (w11.drew.alloc (.cells (vals [2]) 3)) A3 [(2 : Int)].length [2] := Kd.C_alloc (Kd.C_drew K3.out) _
  have HK3 := Lib.hid hk3
  clear hcn hk3
  go_region_held3 (fun w' => w'.cell? ⟨g3, 0, none⟩ = some (.int .i64 3) ∧ w'.cell? ⟨g3, 1, none⟩ = some (.slice A3 1 c3))
    (first | ((try go_split_ands); (repeat' apply And.intro) <;> (repeat (first | assumption | with_reducible apply ka | (with_reducible apply kc; assumption))); done) | go_keep)
    (first
    | (go_at_call 29; refine (fr_any (some ⟨w11.heap.size, 0, none⟩) 1 1 _).mono ?_; rintro e u1 ⟨rfl, hu1⟩; have hC := Kd.C_below HCN.out hu1; have hC3 := Kd.C_below HK3.out hu1)
    | (go_at_call 13; refine (PA.headgatekit_SamePool.calls 10 3 A3 c3 [2] 3 _ 1 [2] true _ hC3 hc3 hC (by decide) (by decide +kernel)).mono ?_; rintro e u2 ⟨rfl, hu2⟩))
  refine hK _ _ ?_
  clear hK K
  have hx : Below w11.heap.size w11 u2 := ((((Below.refl w11.heap.size w11).alloc (Nat.le_refl _) _).drew).trans (hu1.mono (by show w11.heap.size ≤ (w11.alloc _).heap.size; simp))).trans (hu2.mono (by have h1 := hu1.size; have h2 : w11.heap.size ≤ (w11.alloc (.cells #[.int .i64 2] 3)).drew.heap.size := (by show w11.heap.size ≤ (w11.alloc _).heap.size; simp); omega))
  refine WpK.forget (fun W => GC W ∧ Below w.heap.size w W) ⟨gcB HG11.out hx, hb11.trans (hx.mono hs12)⟩ (fun w12 hw => ?_)
  obtain ⟨hg12, hb12⟩ := hw
  have HG12 := Lib.hid hg12
  clear hg12 hu1 hu2 hx K3 Q3 K15 Q15 HCN HK3 hC hC3 y0 y1 HG11 hb11
  refine WpK.seq_wp (fun K hK => ?_)
  go_wp2
  refine WpK.of_wp ?_
  go_wp2_with (first
    | (go_at_call 14; refine (PA.headgatelaw14_awake.calls 80 true _ (by decide +kernel) HG12.out).mono ?_; rintro e u1 ⟨rfl, hu1⟩)
    | (go_at_call 30; (first | (with_reducible refine (frm_true 1 1 (by decide) (by decide) (by decide) _).mono ?_) | (with_reducible refine (frm_true 8 1 (by decide) (by decide) (by decide) _).mono ?_) | (with_reducible refine (frm_true 32 4 (by decide) (by decide) (by decide) _).mono ?_)); rintro e u2 ⟨rfl, hu2⟩; replace hu1 := hu1.trans (hu2.mono hu1.size); clear hu2))
  go_ret
  exact ⟨rfl, hb12.trans (hu1.mono hb12.size)⟩
end Go.Proofs.YtompoghbdpfdjaaDoor
