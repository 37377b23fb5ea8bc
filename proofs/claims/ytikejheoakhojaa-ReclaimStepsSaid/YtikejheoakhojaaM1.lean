/- The contracts of the conditions of steps, of the first step that may be made, and of direct and background steps. Proved for all tallies; no condition. -/
import Derived.Test.YtikejheoakhojaaRows
import Derived.WalkKit
import Derived.WalkLawsBesides
import Derived.WalkSpells
import Derived.BigQuiet
import Derived.Deep.QuietTactic
import Derived.Laws.EntriesVeiled
import Derived.Maps.AppendAt
import Derived.Deep.AppendLies
import Derived.Outline
namespace Go.Proofs.Ytikejheoakhojaa
open Go.RowKit
set_option linter.unusedVariables false
set_option linter.unusedSimpArgs false

structure Hid (p : Prop) : Prop where
  out : p
theorem hid {p : Prop} (h : p) : Hid p := ⟨h⟩
theorem ret_int {k : IntKind} {a b : Int} (h : a = b) : Ending.returned (.int k a) = .returned (.int k b) := by rw [h]
theorem ret_bool {a b : Bool} (h : a = b) : Ending.returned (.bool a) = .returned (.bool b) := by rw [h]
def mxI (x y : Int) : Int := if x < y then y else x
theorem max2i (k k' : IntKind) (x y : Int) : Builtin.max2 (.int k x) (.int k' y) = pure (.int k (mxI x y)) := by simp only [Builtin.max2, gt_iff_lt, mxI]
theorem kc {w w1 : World} {a : Addr} {v : Value} (hb : Below w.heap.size w w1) (h : w.cell? a = some v) : w1.cell? a = some v := by
  rw [hb.cell (World.block_lt_of_cell? w _ h)]; exact h
theorem al {w : World} {k : Nat} {x : Obj} (h : w.heap[k]? = some x) (o : Obj) : (w.alloc o).heap[k]? = some x := by
  rw [Below.heap_alloc w o k (Array.getElem?_eq_some_iff.1 h).1, h]
theorem max_ii (ats : Array TypeId) (ty : TypeId) (k k' : IntKind) (x y : Int) : Builtin.max_ ats ty #[.int k x, .int k' y] = pure (.int k (mxI x y)) := by
  simp only [Builtin.max_, List.foldlM_cons, List.foldlM_nil, max2i]
  rfl
attribute [local go_sem] max_ii

def obF (a5 : Int) : Bool := decide (0 < a5)
def flF (a10 a12 : Int) : Bool := decide (0 < mxI a10 a12)
def deF (a6 a7 a8 : Int) : Bool := decide (a7 < a8) && decide (0 < a6)
def spF (a7 : Int) (a9 : Bool) : Bool := decide (0 < a7) && a9
/-- what hinders a write -/
def hdB (a6 a7 a10 a11 a13 a14 : Int) : List Bool := [mxI a6 a7 == 0, a10 == a11, a13 == 0, a14 == 0]
def hdTo (bs : List Bool) : Nat → List Int
  | 0 => []
  | k + 1 => if bs.getD k false = true then hdTo bs k ++ [(k : Int) + 1] else hdTo bs k
theorem hdTo_len (bs : List Bool) (k : Nat) : (hdTo bs k).length ≤ k := by
  induction k with
  | zero => simp [hdTo]
  | succ k ih => unfold hdTo; split <;> first | (simp; omega) | omega
def hdF (a6 a7 a10 a11 a13 a14 : Int) : List Int := hdTo (hdB a6 a7 a10 a11 a13 a14) 4

theorem own_oth {W w1 : World} {k e n₀ size n t : Nat} {cs : Array Value} {v : Value} {xs : List Value} {tmp : Obj} (hk : W.heap[k]? = some (.cells cs t (0, 0))) (hrow : W.ownsRow n₀ e size v n xs) (ht : t ≠ e)
    (hg : (W.alloc tmp).grownBy w1 v.ownBlock) : w1.heap[k]? = some (.cells cs t (0, 0)) := by
  rw [hg.block k (Array.getElem?_eq_some_iff.1 (al hk tmp)).1 ?_]
  · exact al hk tmp
  · rcases hrow.2 with ⟨rfl, _⟩ | ⟨g, cap, cur, rfl, _, hgb, _⟩
    · simp [Value.ownBlock]
    · intro e'
      obtain rfl : k = g := by simpa [Value.ownBlock] using e'
      rw [hk] at hgb
      simp at hgb
      exact ht hgb.2
theorem info3 : (Try.prog.info? 3).map (fun i => (i.zero, i.size, i.bytes)) = some (some (.int .i64 0), 1, 8) := by kernel_rfl

set_option maxRecDepth 20000 in
set_option maxHeartbeats 4000000 in
theorem hinders_any (a0 a1 a2 a3 : Int) (a4 : Bool) (a5 a6 a7 a8 : Int) (a9 : Bool) (a10 a11 a12 a13 a14 : Int) (w : World) :
    Calls Try.prog 41 #[.agg #[.int .i64 a0, .int .i64 a1, .int .i64 a2, .int .i64 a3, .bool a4, .int .i64 a5, .int .i64 a6, .int .i64 a7, .int .i64 a8, .bool a9, .int .i64 a10, .int .i64 a11, .int .i64 a12, .int .i64 a13, .int .i64 a14]] w fun e w' => ∃ v, e = .returned v ∧ w'.ownsRow w.heap.size 3 1 v (hdF a6 a7 a10 a11 a13 a14).length ((hdF a6 a7 a10 a11 a13 a14).map (Value.int .i64)) ∧ Below w.heap.size w w' := by
  obtain ⟨i0, hi, hz0, hz1, hz2⟩ := info_parts info3
  have HI := hid (And.intro hi (And.intro hz0 (And.intro hz1 hz2)))
  clear hi hz0 hz1 hz2
  go_enter Try.func41, Try.ntmps41
  go_wp2_with fail
  go_loopw [3, 24] (fun v i wr => ∃ k : Nat, k ≤ 4 ∧ i = .int .i64 k ∧ wr.ownsRow w.heap.size 3 1 v (hdTo (hdB a6 a7 a10 a11 a13 a14) k).length ((hdTo (hdB a6 a7 a10 a11 a13 a14) k).map (Value.int .i64)) ∧ wr.heap[w.heap.size + 1]? = some (.cells #[.bool (mxI a6 a7 == 0), .bool (a10 == a11), .bool (a13 == 0), .bool (a14 == 0)] 63 (0, 0)) ∧ Below w.heap.size w wr) (fun _ i _ => 4 - (intOf i).toNat)
  case atStart =>
    refine ⟨0, by omega, rfl, World.ownsRow_nil _ _ _ _, ?_, ?_⟩
    · have h := heap_alloc2_new w (.cells #[.int .i64 a0, .int .i64 a1, .int .i64 a2, .int .i64 a3, .bool a4, .int .i64 a5, .int .i64 a6, .int .i64 a7, .int .i64 a8, .bool a9, .int .i64 a10, .int .i64 a11, .int .i64 a12, .int .i64 a13, .int .i64 a14] 46) (.cells #[.bool (mxI a6 a7 == 0), .bool (a10 == a11), .bool (a13 == 0), .bool (a14 == 0)] 63)
      exact h
    · repeat (first | exact Below.refl _ _ | refine Below.alloc ?_ (by simp <;> omega) _)
  case round =>
    obtain ⟨k, hk, rfl, hO, h1, hb⟩ := hrel
    have HO := hid hO
    have H1 := hid h1
    by_cases hlt : k < 4
    · have c1 : wr.cell? ⟨w.heap.size + 1, k, none⟩ = some (.bool ((hdB a6 a7 a10 a11 a13 a14).getD k false)) := by
        rw [cell_of_row _ _ _ _ _ _ h1]
        rcases (show k = 0 ∨ k = 1 ∨ k = 2 ∨ k = 3 by omega) with rfl | rfl | rfl | rfl <;> rfl
      have HN := hid (show hdTo (hdB a6 a7 a10 a11 a13 a14) (k + 1) = if (hdB a6 a7 a10 a11 a13 a14).getD k false = true then hdTo (hdB a6 a7 a10 a11 a13 a14) k ++ [(k : Int) + 1] else hdTo (hdB a6 a7 a10 a11 a13 a14) k from rfl)
      have hlen := hdTo_len (hdB a6 a7 a10 a11 a13 a14) k
      have hsz : w.heap.size + 1 < wr.heap.size := World.block_lt_of_cell? wr _ c1
      have hk0 : (0 : Int) ≤ (k : Int) := by omega
      have hk1 : (k : Int) < 4 := by omega
      clear hO h1
      generalize (hdB a6 a7 a10 a11 a13 a14).getD k false = b at *
      cases b
      · go_wp2_with fail
        refine ⟨⟨k + 1, by omega, by go_num, ?_, H1.out, hb⟩, by simp [intOf]; omega⟩
        rw [HN.out, if_neg (by simp)]
        exact HO.out
      · go_wp2_with (at_builtin; refine wpList_append_own _ rfl _ _ 28 rfl w.heap.size 3 i0 (.int .i64 0) 1 8 Try.underlying28 HI.out.1 HI.out.2.1 HI.out.2.2.1 HI.out.2.2.2 rfl (by decide) _ _ _ rfl (World.ownsRow.alloc HO.out _) ⟨wr.heap.size, 0, none⟩ 1 1 [.int .i64 ((k : Int) + 1)] rfl rfl (cell_one_new _ _ _) (by simp [Value.oneCell']) ?c3 ?c4 ?c5 ?_)
        case c3 => unfold maxLen; omega
        case c4 => omega
        case c5 => first | omega | (simp; omega)
        intro v' w3 hown hgrow _
        have h1' : w3.heap[w.heap.size + 1]? = some (.cells #[.bool (mxI a6 a7 == 0), .bool (a10 == a11), .bool (a13 == 0), .bool (a14 == 0)] 63 (0, 0)) := own_oth H1.out HO.out (by decide) hgrow
        have hkb : ∀ k, u3.ownBlock = some k → w.heap.size ≤ k := fun k hk => (World.ownsRow.lt HO.out k hk).1
        have hb3 := (hb.alloc hb.size _).grown hgrow (by have := hb.size; simp; omega) (fun k hk => hkb k hk)
        have H1' := hid h1'
        clear h1'
        go_wp2_with fail
        refine ⟨⟨k + 1, by omega, by go_num, ?_, H1'.out, hb3⟩, by simp [intOf]; omega⟩
        rw [HN.out, if_pos trivial]
        simpa using hown
    · obtain rfl : k = 4 := by omega
      clear hO h1
      go_wp2_with fail
      go_ret
      exact ⟨_, rfl, HO.out, hb⟩

set_option maxHeartbeats 1000000 in
theorem objects_any (a0 a1 a2 a3 : Int) (a4 : Bool) (a5 a6 a7 a8 : Int) (a9 : Bool) (a10 a11 a12 a13 a14 : Int) (w : World) :
    Calls Try.prog 48 #[.agg #[.int .i64 a0, .int .i64 a1, .int .i64 a2, .int .i64 a3, .bool a4, .int .i64 a5, .int .i64 a6, .int .i64 a7, .int .i64 a8, .bool a9, .int .i64 a10, .int .i64 a11, .int .i64 a12, .int .i64 a13, .int .i64 a14]] w fun e w' => e = .returned (.bool (obF a5)) ∧ Below w.heap.size w w' := by
  go_enter Try.func48, Try.ntmps48
  go_wp2_with fail
  go_ret
  refine ⟨rfl, ?_⟩
  repeat (first | exact Below.refl _ _ | refine Below.alloc ?_ (by simp <;> omega) _ | refine Below.drew ?_)

set_option maxHeartbeats 1000000 in
theorem flying_any (a0 a1 a2 a3 : Int) (a4 : Bool) (a5 a6 a7 a8 : Int) (a9 : Bool) (a10 a11 a12 a13 a14 : Int) (w : World) :
    Calls Try.prog 50 #[.agg #[.int .i64 a0, .int .i64 a1, .int .i64 a2, .int .i64 a3, .bool a4, .int .i64 a5, .int .i64 a6, .int .i64 a7, .int .i64 a8, .bool a9, .int .i64 a10, .int .i64 a11, .int .i64 a12, .int .i64 a13, .int .i64 a14]] w fun e w' => e = .returned (.bool (flF a10 a12)) ∧ Below w.heap.size w w' := by
  go_enter Try.func50, Try.ntmps50
  go_wp2_with fail
  go_ret
  refine ⟨rfl, ?_⟩
  repeat (first | exact Below.refl _ _ | refine Below.alloc ?_ (by simp <;> omega) _ | refine Below.drew ?_)

set_option maxHeartbeats 1000000 in
theorem demotes_any (a0 a1 a2 a3 : Int) (a4 : Bool) (a5 a6 a7 a8 : Int) (a9 : Bool) (a10 a11 a12 a13 a14 : Int) (w : World) :
    Calls Try.prog 51 #[.agg #[.int .i64 a0, .int .i64 a1, .int .i64 a2, .int .i64 a3, .bool a4, .int .i64 a5, .int .i64 a6, .int .i64 a7, .int .i64 a8, .bool a9, .int .i64 a10, .int .i64 a11, .int .i64 a12, .int .i64 a13, .int .i64 a14]] w fun e w' => e = .returned (.bool (deF a6 a7 a8)) ∧ Below w.heap.size w w' := by
  have HD : ∀ x y : Bool, x = decide (a7 < a8) → y = decide (0 < a6) → Hid (deF a6 a7 a8 = (x && y)) := fun x y hx hy => hid (by rw [hx, hy]; rfl)
  cases h1 : decide (a7 < a8) <;> cases h2 : decide (0 < a6)
  all_goals
    have H := HD _ _ h1.symm h2.symm
    clear HD
    go_enter Try.func51, Try.ntmps51
    go_wp2_with fail
    go_ret
    refine ⟨ret_bool (by rw [H.out]; rfl), ?_⟩
    repeat (first | exact Below.refl _ _ | refine Below.alloc ?_ (by simp <;> omega) _ | refine Below.drew ?_)

set_option maxHeartbeats 1000000 in
theorem spares_any (a0 a1 a2 a3 : Int) (a4 : Bool) (a5 a6 a7 a8 : Int) (a9 : Bool) (a10 a11 a12 a13 a14 : Int) (w : World) :
    Calls Try.prog 52 #[.agg #[.int .i64 a0, .int .i64 a1, .int .i64 a2, .int .i64 a3, .bool a4, .int .i64 a5, .int .i64 a6, .int .i64 a7, .int .i64 a8, .bool a9, .int .i64 a10, .int .i64 a11, .int .i64 a12, .int .i64 a13, .int .i64 a14]] w fun e w' => e = .returned (.bool (spF a7 a9)) ∧ Below w.heap.size w w' := by
  have HD : ∀ x : Bool, x = decide (0 < a7) → Hid (spF a7 a9 = (x && a9)) := fun x hx => hid (by rw [hx]; rfl)
  cases h1 : decide (0 < a7) <;> cases a9
  all_goals
    have H := HD _ h1.symm
    clear HD
    go_enter Try.func52, Try.ntmps52
    go_wp2_with fail
    go_ret
    refine ⟨ret_bool (by rw [H.out]; rfl), ?_⟩
    repeat (first | exact Below.refl _ _ | refine Below.alloc ?_ (by simp <;> omega) _ | refine Below.drew ?_)

def wrF (a6 a7 a10 a11 a13 a14 : Int) : Bool := (hdF a6 a7 a10 a11 a13 a14).length == 0
def inF (a6 a7 a10 a11 a13 a14 : Int) : Bool := decide (0 < a7) && wrF a6 a7 a10 a11 a13 a14
theorem own_slice {w : World} {base : Nat} {e : TypeId} {size n : Nat} {v : Value} {xs : List Value} (h : w.ownsRow base e size v n xs) : ∃ A c, v = .slice A n c := by
  rcases h.2 with ⟨rfl, h0⟩ | ⟨g, cap, cur, rfl, _⟩
  · exact ⟨none, 0, by rw [h0]⟩
  · exact ⟨_, _, rfl⟩

set_option maxHeartbeats 1000000 in
theorem writes_any (a0 a1 a2 a3 : Int) (a4 : Bool) (a5 a6 a7 a8 : Int) (a9 : Bool) (a10 a11 a12 a13 a14 : Int) (w : World) :
    Calls Try.prog 49 #[.agg #[.int .i64 a0, .int .i64 a1, .int .i64 a2, .int .i64 a3, .bool a4, .int .i64 a5, .int .i64 a6, .int .i64 a7, .int .i64 a8, .bool a9, .int .i64 a10, .int .i64 a11, .int .i64 a12, .int .i64 a13, .int .i64 a14]] w fun e w' => e = .returned (.bool (wrF a6 a7 a10 a11 a13 a14)) ∧ Below w.heap.size w w' := by
  have hb0 := (Below.refl w.heap.size w).alloc (Nat.le_refl _) (.cells #[.int .i64 a0, .int .i64 a1, .int .i64 a2, .int .i64 a3, .bool a4, .int .i64 a5, .int .i64 a6, .int .i64 a7, .int .i64 a8, .bool a9, .int .i64 a10, .int .i64 a11, .int .i64 a12, .int .i64 a13, .int .i64 a14] 46)
  go_enter Try.func49, Try.ntmps49
  go_wp2_with fail
  refine (hinders_any a0 a1 a2 a3 a4 a5 a6 a7 a8 a9 a10 a11 a12 a13 a14 _).mono ?_
  rintro e w1 ⟨v, rfl, hown, hb⟩
  obtain ⟨A, c, rfl⟩ := own_slice hown
  have H := hid (show ((hdF a6 a7 a10 a11 a13 a14).length : Int) = 0 ↔ wrF a6 a7 a10 a11 a13 a14 = true by unfold wrF; simp)
  clear hown
  generalize hL : (hdF a6 a7 a10 a11 a13 a14).length = L at *
  cases hw : wrF a6 a7 a10 a11 a13 a14
  · have hne : ((L : Int) == 0) = false := by
      have := H.out
      rw [hw] at this
      simp at this ⊢
      exact this
    have HW := hid hw
    clear hw H hL
    go_wp2_with fail
    go_ret
    exact ⟨ret_bool HW.out.symm, hb0.trans (hb.mono hb0.size)⟩
  · have h0 : L = 0 := by
      have := H.out.2 hw
      omega
    subst h0
    have HW := hid hw
    clear hw H hL
    go_wp2_with fail
    go_ret
    exact ⟨ret_bool HW.out.symm, hb0.trans (hb.mono hb0.size)⟩

set_option maxHeartbeats 1000000 in
theorem inactive_any (a0 a1 a2 a3 : Int) (a4 : Bool) (a5 a6 a7 a8 : Int) (a9 : Bool) (a10 a11 a12 a13 a14 : Int) (w : World) :
    Calls Try.prog 53 #[.agg #[.int .i64 a0, .int .i64 a1, .int .i64 a2, .int .i64 a3, .bool a4, .int .i64 a5, .int .i64 a6, .int .i64 a7, .int .i64 a8, .bool a9, .int .i64 a10, .int .i64 a11, .int .i64 a12, .int .i64 a13, .int .i64 a14]] w fun e w' => e = .returned (.bool (inF a6 a7 a10 a11 a13 a14)) ∧ Below w.heap.size w w' := by
  have hb0 := (Below.refl w.heap.size w).alloc (Nat.le_refl _) (.cells #[.int .i64 a0, .int .i64 a1, .int .i64 a2, .int .i64 a3, .bool a4, .int .i64 a5, .int .i64 a6, .int .i64 a7, .int .i64 a8, .bool a9, .int .i64 a10, .int .i64 a11, .int .i64 a12, .int .i64 a13, .int .i64 a14] 46)
  cases h1 : decide (0 < a7)
  · have H := hid (show inF a6 a7 a10 a11 a13 a14 = false by unfold inF; rw [h1]; rfl)
    go_enter Try.func53, Try.ntmps53
    go_wp2_with fail
    go_ret
    exact ⟨ret_bool (by rw [H.out]), hb0⟩
  · have H := hid (show inF a6 a7 a10 a11 a13 a14 = wrF a6 a7 a10 a11 a13 a14 by unfold inF; rw [h1]; rfl)
    go_enter Try.func53, Try.ntmps53
    go_wp2_with fail
    refine (writes_any a0 a1 a2 a3 a4 a5 a6 a7 a8 a9 a10 a11 a12 a13 a14 _).mono ?_
    rintro e w1 ⟨rfl, hb⟩
    go_wp2_with fail
    go_ret
    exact ⟨ret_bool (by rw [H.out]), hb0.trans (hb.mono hb0.size)⟩
end Go.Proofs.Ytikejheoakhojaa
