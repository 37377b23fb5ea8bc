/- Slices of integers as lists: one that came in, one that the call itself made by append; the contract of headgatekit.SameInts. Condition of the contract: both lists are shorter than the greatest int. -/
import Derived.Test.YtgibkebdkhildaaN
import Derived.Maps.AppendAt
import Derived.Deep.AppendLies
namespace Go.Proofs.Ytgibkebdkhildaa
open Go.RowKit
set_option linter.unusedVariables false
set_option linter.unusedSimpArgs false

def RdI (w : World) (A : Option Addr) (xs : List Int) : Prop :=
  xs = [] ∨ ∃ b off, A = some ⟨b, off, none⟩ ∧ ∀ i (h : i < xs.length), w.cell? ⟨b, off + i, none⟩ = some (.int .i64 xs[i])
theorem RdI.nil {w : World} {A : Option Addr} : RdI w A [] := Or.inl rfl
theorem RdI.drew {w : World} {A : Option Addr} {xs : List Int} (h : RdI w A xs) : RdI w.drew A xs := h
theorem RdI.below {w w1 : World} {A : Option Addr} {xs : List Int} (h : RdI w A xs) (hb : Below w.heap.size w w1) : RdI w1 A xs := by
  rcases h with h | ⟨b, off, e, h⟩
  · exact Or.inl h
  · exact Or.inr ⟨b, off, e, fun i hi => kc hb (h i hi)⟩
theorem RdI.at_ {w : World} {A : Option Addr} {xs : List Int} (h : RdI w A xs) {i : Nat} (hi : i < xs.length) :
    ∃ b off, A = some ⟨b, off, none⟩ ∧ w.cell? ⟨b, off + i, none⟩ = some (.int .i64 xs[i]) := by
  rcases h with h | ⟨b, off, e, h⟩
  · rw [h] at hi; exact absurd hi (by simp)
  · exact ⟨b, off, e, h i hi⟩
/-- a list of integers that the call has made itself -/
def OwnI (w : World) (base : Nat) (v : Value) (xs : List Int) : Prop := w.ownsRow base 3 1 v xs.length (xs.map (Value.int .i64))
theorem OwnI.nil (w : World) (base : Nat) : OwnI w base (.slice none 0 0) [] := World.ownsRow_nil _ _ _ _
theorem OwnI.reads {w : World} {base : Nat} {v : Value} {xs : List Int} (h : OwnI w base v xs) : ∃ A c, v = .slice A xs.length c ∧ RdI w A xs := by
  by_cases h0 : xs.length = 0
  · have : xs = [] := by cases xs; rfl; simp at h0
    subst this
    rcases h.2 with ⟨hv, _⟩ | ⟨g, cap, cur, hv, _⟩
    · exact ⟨none, 0, by simpa using hv, Or.inl rfl⟩
    · exact ⟨_, cap, hv, Or.inl rfl⟩
  · obtain ⟨g, cap, hv, _, _⟩ := World.ownsRow.form h (by omega)
    refine ⟨some ⟨g, 0, none⟩, cap, hv, Or.inr ⟨g, 0, rfl, fun i hi => ?_⟩⟩
    unfold OwnI at h
    rw [hv] at h
    have := World.ownsRow.cellAt h i (by omega)
    rw [Nat.zero_add, this]
    simp [List.getElem?_eq_getElem hi]

theorem OwnI.alloc {w : World} {base : Nat} {v : Value} {xs : List Int} (h : OwnI w base v xs) (o : Obj) : OwnI (w.alloc o) base v xs := World.ownsRow.alloc h o
theorem OwnI.below {w w1 : World} {base : Nat} {v : Value} {xs : List Int} (h : OwnI w base v xs) (hb : Below w.heap.size w w1) : OwnI w1 base v xs := by
  refine ⟨h.1, ?_⟩
  rcases h.2 with h' | ⟨g, cap, cur, hv, hbg, hg, r⟩
  · exact Or.inl h'
  · refine Or.inr ⟨g, cap, cur, hv, hbg, ?_, r⟩
    have hlt : g < w.heap.size := by
      rcases Nat.lt_or_ge g w.heap.size with hlt | hge
      · exact hlt
      · rw [Array.getElem?_eq_none hge] at hg; cases hg
    rw [hb.block g hlt]; exact hg
theorem OwnI.of {w : World} {base : Nat} {v : Value} {xs : List Int} {x : Int} (h : w.ownsRow base 3 1 v (xs.length + 1) (xs.map (Value.int .i64) ++ [.int .i64 x])) : OwnI w base v (xs ++ [x]) := by
  unfold OwnI
  simpa using h

set_option maxHeartbeats 1000000 in
/-- headgatekit.SameInts -/
theorem same_any (A B : Option Addr) (ca cb : Nat) (xs ys : List Int) (hl : xs.length ≤ 9223372036854775807) (hl' : ys.length ≤ 9223372036854775807) (w : World) (hA : RdI w A xs) (hB : RdI w B ys) :
    Calls Try.prog 18 #[.slice A xs.length ca, .slice B ys.length cb] w fun e w' => e = .returned (.bool (decide (xs = ys))) ∧ Below w.heap.size w w' := by
  by_cases hn : xs.length = ys.length
  case neg =>
    have hne : ¬ xs = ys := fun e => hn (by rw [e])
    rw [show decide (xs = ys) = false from by simp [hne]]
    have e1 : ((xs.length : Int) != (ys.length : Int)) = true := by simp; omega
    clear hn hne
    go_enter Try.func18, Try.ntmps18
    go_wp2
    go_ret
    exact ⟨rfl, Below.refl _ _⟩
  have e1 : ((xs.length : Int) != (ys.length : Int)) = false := by simp; omega
  have HN := hid hn
  go_enter Try.func18, Try.ntmps18
  go_wp2
  go_loopw [5] (fun i wr => ∃ k : Nat, k ≤ xs.length ∧ i = .int .i64 k ∧ (∀ j (h : j < k) (h1 : j < xs.length) (h2 : j < ys.length), xs[j] = ys[j]) ∧ Below w.heap.size w wr) (fun i _ => xs.length - (intOf i).toNat)
  case atStart => exact ⟨0, by omega, rfl, fun j h => absurd h (by omega), Below.refl _ _⟩
  case round =>
    obtain ⟨k, hk, rfl, hE, hb⟩ := hrel
    have HE := hid hE
    clear hE
    by_cases hlt : k < xs.length
    · have hlt' : k < ys.length := by have := HN.out; omega
      obtain ⟨b, off, rfl, x0⟩ := (hA.below hb).at_ hlt
      obtain ⟨b', off', rfl, y0⟩ := (hB.below hb).at_ hlt'
      have i0 : (0 : Int) ≤ (k : Int) := by omega
      have i1 : (k : Int) < (xs.length : Int) := by omega
      have i2 : (k : Int) < (ys.length : Int) := by omega
      clear hn
      by_cases hx : xs[k] = ys[k]
      · have e2 : (xs[k] != ys[k]) = false := by simp [hx]
        have HX := hid hx
        clear hx
        go_wp2
        go_region
        go_wp2
        refine ⟨⟨k + 1, by omega, by go_num, fun j h h1 h2 => ?_, hb.drew⟩, by simp [intOf]; omega⟩
        by_cases hj : j = k
        · subst hj; exact HX.out
        · exact HE.out j (by omega) h1 h2
      · have e2 : (xs[k] != ys[k]) = true := by simp [hx]
        have HX := hid hx
        clear hx
        go_wp2
        go_region
        go_wp2
        go_ret
        refine ⟨ret_bool ?_, hb.drew⟩
        have : ¬ xs = ys := fun e => HX.out (by simp [e])
        simp [this]
    · clear hn
      go_wp2
      go_ret
      refine ⟨ret_bool ?_, hb⟩
      have : xs = ys := List.ext_getElem HN.out fun j h1 h2 => HE.out j (by omega) h1 h2
      simp [this]
end Go.Proofs.Ytgibkebdkhildaa
