/- The contracts of pressure.next, of pressure.states and of the iterator that it returns. Proved for all values; no condition but that the history's cells lie as they lay. -/
import Derived.Test.YtfjfmhkifaiakaaM1
import Derived.RangeFuncBox
import Derived.RangeFuncLeaves
import Derived.RangeFuncCalls
import Derived.Shelf.Abstract
import Derived.OwnWalkIn
import Derived.TacticsInMore
import Derived.LoopNIn
import Derived.LoopIn
import Derived.Maps.AppendAt
namespace Go.Proofs.Ytfjfmhkifaiakaa
open Go.RowKit Go.Shelf
set_option linter.unusedVariables false
set_option linter.unusedSimpArgs false

attribute [local go_sem] Oper.semAt_some

theorem ret_bool {a b : Bool} (h : a = b) : Ending.returned (.bool a) = .returned (.bool b) := by rw [h]
def awN (md hi : Int) (a : Bool) (fr : Int) : Bool := decide (fr < md) || (a && decide (fr < hi))
theorem next_any (lo md hi : Int) (a : Bool) (fr : Int) (w : World) :
    Calls Try.prog 39 #[.agg #[.int .i64 lo, .int .i64 md, .int .i64 hi], .bool a, .int .i64 fr] w fun e w' => e = .returned (.bool (awN md hi a fr)) ∧ Below w.heap.size w w' := by
  have HA : ∀ x y : Bool, x = decide (fr < md) → y = decide (fr < hi) → Hid (awN md hi a fr = (x || (a && y))) := fun x y hx hy => hid (by rw [hx, hy]; rfl)
  cases h1 : decide (fr < md) <;> cases h2 : decide (fr < hi) <;> cases a
  all_goals
    have H := HA _ _ h1.symm h2.symm
    clear HA
    go_enter Try.func39, Try.ntmps39
    go_wp2
    go_ret
    refine ⟨ret_bool (by rw [H.out]; rfl), ?_⟩
    repeat (first | exact Below.refl _ _ | refine Below.alloc ?_ (by simp <;> omega) _ | refine Below.drew ?_)

/-- is the reclaimer awake behind k numbers -/
def awAt (md hi : Int) (zs : List Int) : Nat → Bool
  | 0 => false
  | k + 1 => awN md hi (awAt md hi zs k) (zs[k]?.getD 0)
def stTo (md hi : Int) (zs : List Int) (k : Nat) : List (Nat × Bool) := (List.range k).map fun j => (j, awAt md hi zs (j + 1))
theorem stTo_succ (md hi : Int) (zs : List Int) (k : Nat) : stTo md hi zs (k + 1) = stTo md hi zs k ++ [(k, awAt md hi zs (k + 1))] := by simp [stTo, List.range_succ]
theorem stTo_len (md hi : Int) (zs : List Int) (k : Nat) : (stTo md hi zs k).length = k := by simp [stTo]

/-- A slice of whole numbers below n₀. -/
def IntsB (n₀ : Nat) (W : World) (A : Option Addr) (zs : List Int) : Prop :=
  zs = [] ∨ ∃ b off, A = some ⟨b, off, none⟩ ∧ b < n₀ ∧ ∀ j, j < zs.length → W.cell? ⟨b, off + j, none⟩ = some (.int .i64 (zs[j]?.getD 0))
theorem IntsB.below {n₀ : Nat} {W W' : World} (h : Below n₀ W W') {A : Option Addr} {zs : List Int} : IntsB n₀ W A zs → IntsB n₀ W' A zs
  | .inl e => .inl e
  | .inr ⟨b, off, e, hb, hc⟩ => .inr ⟨b, off, e, hb, fun j hj => (h.cell (p := ⟨b, off + j, none⟩) hb).trans (hc j hj)⟩

/-- what a round keeps: what lay below n₀, and the marks' box -/
def KpM (n₀ Bm : Nat) (A B : World) : Prop := Below n₀ A B ∧ B.heap[Bm]? = A.heap[Bm]?
theorem KpM.trans {n₀ Bm : Nat} {A B C : World} (h : KpM n₀ Bm A B) (k : KpM n₀ Bm B C) : KpM n₀ Bm A C := ⟨h.1.trans k.1, k.2.trans h.2⟩
theorem KpM.refl (n₀ Bm : Nat) (A : World) : KpM n₀ Bm A A := ⟨Below.refl _ _, rfl⟩

set_option maxRecDepth 100000 in
set_option maxHeartbeats 4000000 in
theorem states1_in (l Bh Bm n₀ : Nat) (A : Option Addr) (cap : Nat) (lo md hi : Int) (zs : List Int) (hl : zs.length ≤ 9223372036854775807) (J Jx : List (Nat × Bool) → World → Prop)
    (hY : ∀ pre x W, J pre W → pre.length < zs.length → YieldAt Fence.wide 2 Try.prog l #[.int .i64 (x.1 : Int), .bool x.2] W fun e W' =>
      (e = .returned (.bool true) ∧ J (pre ++ [x]) W' ∧ KpM n₀ Bm W W') ∨ (e = .returned (.bool false) ∧ Jx (pre ++ [x]) W'))
    (hJb : ∀ pre W W', J pre W → Below W.heap.size W W' → J pre W')
    (W : World) (hBh : W.cell? ⟨Bh, 0, none⟩ = some (.slice A zs.length cap)) (hm : W.heap[Bm]? = some (.cells #[.int .i64 lo, .int .i64 md, .int .i64 hi] 23 (0, 0))) (hI : IntsB n₀ W A zs) (hn₀ : n₀ ≤ W.heap.size) (h0 : J [] W) :
    CallsIn Fence.wide 3 Try.prog 46 #[.func (.yield l) #[] #[], .pointer (some ⟨Bh, 0, none⟩), .pointer (some ⟨Bm, 0, none⟩)] W fun e W' => (∃ v, e = .returned v) ∧
      ((∃ ys, ys = stTo md hi zs zs.length ∧ J ys W') ∨ (∃ pre, (∃ k, k ≤ zs.length ∧ pre = stTo md hi zs k) ∧ Jx pre W')) := by
  refine callsIn_of_wp Try.func46 rfl trivial ?_ rfl
  simp only [Try.ntmps46, List.size_toArray, List.length_cons, List.length_nil, Nat.reduceAdd, Nat.reduceSub, Array.replicate_succ, Array.replicate_zero, List.push_toArray, List.append_toArray, List.nil_append, List.cons_append]
  gi_wp2
  gi_loopw [4, 9] (fun aw i wr => ∃ k : Nat, k ≤ zs.length ∧ i = .int .i64 k ∧ aw = .bool (awAt md hi zs k) ∧ J (stTo md hi zs k) wr ∧ KpM n₀ Bm W wr)
    (fun _ i _ => zs.length - (intOf i).toNat)
  case atStart => exact ⟨0, Nat.zero_le _, rfl, rfl, h0, KpM.refl _ _ _⟩
  case round =>
    obtain ⟨k, hk, rfl, rfl, hJs, hnx⟩ := hrel
    by_cases hlt : k < zs.length
    · rcases hI.below hnx.1 with e | ⟨b, off, rfl, hb, hc⟩
      · rw [e] at hlt; simp at hlt
      have hcx := hc k hlt
      have hm' := hnx.2.trans hm
      have m0 : wr.cell? ⟨Bm, 0, none⟩ = some (.int .i64 lo) := by simp [World.cell?, hm']
      have m1 : wr.cell? ⟨Bm, 1, none⟩ = some (.int .i64 md) := by simp [World.cell?, hm']
      have m2 : wr.cell? ⟨Bm, 2, none⟩ = some (.int .i64 hi) := by simp [World.cell?, hm']
      have hstep : awN md hi (awAt md hi zs k) (zs[k]?.getD 0) = awAt md hi zs (k + 1) := rfl
      have HS := hid hstep
      have HSS := hid (stTo_succ md hi zs k)
      have HJ := hid hJs
      have HN := hid hnx
      have HBm : Bm < wr.heap.size := (Array.getElem?_eq_some_iff.1 hm').1
      have HZ : n₀ ≤ wr.heap.size := Nat.le_trans hn₀ hnx.1.size
      clear hstep hc hm' hJs hnx hI
      generalize hA1 : awAt md hi zs (k + 1) = a1 at *
      have HA1 := hid hA1
      clear hA1
      generalize awAt md hi zs k = a0 at *
      generalize zs[k]?.getD 0 = fr at *
      gi_wp2_with (refine ⟨trivial, ?_⟩; gi_at_call 39; refine (callsIn_wide.2 (next_any lo md hi a0 fr _)).mono ?_; rintro e w2 ⟨rfl, hb2⟩)
      have hK2 : KpM n₀ Bm wr w2 := ⟨hb2.mono HZ, hb2.block Bm HBm⟩
      rw [HS.out]
      obtain ⟨fn, tmps, assign, body, hy, hR⟩ := hY _ (k, a1) w2 (hJb _ _ _ HJ.out hb2) (by rw [stTo_len]; exact hlt)
      dsimp only at hy
      rw [hy, Oper.uponIn_round]
      refine ⟨(fun h => by cases h), ?_⟩
      refine hR.mono ?_
      rintro e W3 (⟨rfl, hJ3, hk3⟩ | ⟨rfl, hJx3⟩)
      · gi_wp2
        go_roundw
        case rel => exact ⟨k + 1, by omega, by simp, by rw [HA1.out], by rw [HSS.out]; exact hJ3, (HN.out.trans hK2).trans hk3⟩
        case measure => simp [intOf]; omega
      · gi_wp2
        refine bodyPost_ret (results_none rfl _ _ _) rfl ?_
        exact ⟨⟨_, rfl⟩, .inr ⟨_, ⟨k + 1, by omega, HSS.out.symm⟩, hJx3⟩⟩
    · obtain rfl : k = zs.length := by omega
      gi_wp2
      go_end0
      exact ⟨⟨_, rfl⟩, .inl ⟨_, rfl, hJs⟩⟩

theorem states_any (A : Option Addr) (len cap : Nat) (lo md hi : Int) (w : World) :
    Calls Try.prog 41 #[.agg #[.int .i64 lo, .int .i64 md, .int .i64 hi], .slice A len cap] w fun e w' =>
      e = .returned (.func (.func 46) #[] #[.pointer (some ⟨w.heap.size + 1, 0, none⟩), .pointer (some ⟨w.heap.size, 0, none⟩)]) ∧ w' = (w.alloc (.cells #[.int .i64 lo, .int .i64 md, .int .i64 hi] 23)).alloc (.cells #[.slice A len cap] 36) := by
  go_enter Try.func41, Try.ntmps41
  go_wp2
  go_ret
  exact ⟨rfl, rfl⟩

theorem grown_none {W W' : World} (h : Below W.heap.size W W') : W.grownBy W' none := ⟨h.os, h.tape, h.output, h.size, fun k hk _ => h.block k hk⟩

theorem states_stops (Bh Bm n₀ : Nat) (A : Option Addr) (cap : Nat) (lo md hi : Int) (zs : List Int) (hl : zs.length ≤ 9223372036854775807) (w : World) (hn₀ : n₀ ≤ w.heap.size)
    (hBh : w.cell? ⟨Bh, 0, none⟩ = some (.slice A zs.length cap)) (hm : w.heap[Bm]? = some (.cells #[.int .i64 lo, .int .i64 md, .int .i64 hi] 23 (0, 0))) (hI : IntsB n₀ w A zs) :
    SeqStopsK Fence.wide 3 Try.prog 46 #[.pointer (some ⟨Bh, 0, none⟩), .pointer (some ⟨Bm, 0, none⟩)] (fun x : Nat × Bool => #[Value.int .i64 (x.1 : Int), Value.bool x.2]) (KpM n₀ Bm)
      (fun ys => ys = stTo md hi zs zs.length) (fun pre => ∃ k, k ≤ zs.length ∧ pre = stTo md hi zs k) zs.length w := fun l J Jx W hW hJ _ hY h0 => by
  have hb := World.block_lt_of_cell? w _ hBh
  exact states1_in l Bh Bm n₀ A cap lo md hi zs hl J Jx hY (fun pre X Y hX hXY => hJ pre X Y none hX (grown_none hXY) (fun r e => by cases e)) W ((hW.cell hb).trans hBh) ((hW.block Bm (Array.getElem?_eq_some_iff.1 hm).1).trans hm) (hI.below (hW.mono hn₀)) (Nat.le_trans hn₀ hW.size) h0

theorem info4 : (Try.prog.info? 4).map (fun i => (i.zero, i.size, i.bytes)) = some (some (.bool false), 1, 1) := by kernel_rfl
theorem info49 : (Try.prog.info? 49).map (fun i => (i.zero, i.size, i.bytes)) = some (some (.agg #[.int .i64 0, .int .i64 0]), 2, 16) := by kernel_rfl
end Go.Proofs.Ytfjfmhkifaiakaa
