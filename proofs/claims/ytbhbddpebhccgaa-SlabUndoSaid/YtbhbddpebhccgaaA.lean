import Derived.Test.YtbhbddpebhccgaaRows
import Derived.WalkKit
import Derived.WalkLawsBesides
import Derived.WalkSpells
import Derived.BigQuiet
import Derived.Deep.QuietTactic
import Derived.Lib.BitFns
import Derived.Lib.Tables
import Derived.Lib.Walk
import Derived.Lib.Small
namespace Go.Proofs.Ytbhbddpebhccgaa
open Go.RowKit

theorem ret_int {k : IntKind} {a b : Int} (h : a = b) : Ending.returned (.int k a) = .returned (.int k b) := by rw [h]
theorem bcell {W w1 : World} (hb : Below W.heap.size W w1) : (∀ b o, b < W.heap.size → w1.cell? ⟨b, o, none⟩ = W.cell? ⟨b, o, none⟩) ∧ (∀ b o, b < W.heap.size → w1.frozen? ⟨b, o, none⟩ = W.frozen? ⟨b, o, none⟩) :=
  ⟨fun b o h => hb.cell (p := ⟨b, o, none⟩) h, fun b o h => hb.frozen (p := ⟨b, o, none⟩) h⟩

theorem s_any (u : Int) (w : World) :
    Calls Try.prog 27 #[.int .u8 u] w fun e w' => e = .returned (.agg #[.int .i64 5, .int .u8 u]) ∧ Below w.heap.size w w' := by
  go_enter Try.func27, Try.ntmps27
  go_wp2
  refine bodyPost_ret (v := .agg #[.int .i64 5, .int .u8 u]) (by simp [results, Try.results27, go_sem]) rfl ⟨rfl, ?_⟩
  exact (Below.refl _ _).alloc (Nat.le_refl _) _

def chkE (f : Int) : Int := if f < 0 ∨ 256 ≤ f then 2 else 0
theorem chk_ok {f : Int} (h0 : 0 ≤ f) (h1 : f < 256) : chkE f = 0 := by unfold chkE; rw [if_neg (by omega)]
theorem chk_no {f : Int} (h : f < 0 ∨ 256 ≤ f) : chkE f = 2 := by unfold chkE; rw [if_pos h]

theorem check_any (f u : Int) (w : World) :
    Calls Try.prog 15 #[.agg #[.int .i64 f, .int .u8 u]] w fun e w' => e = .returned (.int .i64 (chkE f)) ∧ Below w.heap.size w w' := by
  by_cases h0 : f < 0
  · rw [chk_no (Or.inl h0)]
    go_enter Try.func15, Try.ntmps15
    go_wp2
    go_ret
    exact ⟨rfl, (Below.refl _ _).alloc (Nat.le_refl _) _⟩
  · by_cases h1 : 256 ≤ f
    · rw [chk_no (Or.inr h1)]
      go_enter Try.func15, Try.ntmps15
      go_wp2
      go_ret
      exact ⟨rfl, (Below.refl _ _).alloc (Nat.le_refl _) _⟩
    · rw [chk_ok (by omega) (by omega)]
      go_enter Try.func15, Try.ntmps15
      go_wp2
      go_ret
      exact ⟨rfl, (Below.refl _ _).alloc (Nat.le_refl _) _⟩

def tz (u : Int) : Int := Lib.trailingZeros8 (255 - u).toNat

theorem ntz_tz (u : Int) (h0 : 0 ≤ u) (h1 : u ≤ 255) : wrap64 (Lib.ntz8 (255 - u)) = tz u := by
  have h := Lib.ntz8_int (255 - u) (by omega) (by omega)
  unfold wrap64 tz
  exact h

theorem tz_any (x u : Int) (h0 : 0 ≤ x) (h1 : x ≤ 255) (hx : x = 255 - u) (w : World) :
    Calls Try.prog 29 #[.int .u8 x] w fun e w' => e = .returned (.int .i64 (tz u)) ∧ w = w' := by
  have H : Hid (x = 255 - u) := hx
  clear hx
  go_enter Try.func29, Try.ntmps29
  go_wp2
  go_ret
  exact ⟨ret_int (by rw [← ntz_tz u (by have := H.out; omega) (by have := H.out; omega), ← H.out]), rfl⟩

def ofS (u : Int) : Int := if u = 0 then 1 else if u = 255 then 3 else 2
theorem of_any (f u : Int) (w : World) :
    Calls Try.prog 28 #[.agg #[.int .i64 f, .int .u8 u]] w fun e w' => e = .returned (.int .i64 (ofS u)) ∧ Below w.heap.size w w' := by
  by_cases h0 : u = 0
  · subst h0
    go_enter Try.func28, Try.ntmps28
    go_wp2
    go_ret
    exact ⟨rfl, (Below.refl _ _).alloc (Nat.le_refl _) _⟩
  · by_cases h1 : u = 255
    · subst h1
      go_enter Try.func28, Try.ntmps28
      go_wp2
      go_ret
      exact ⟨rfl, (Below.refl _ _).alloc (Nat.le_refl _) _⟩
    · rw [show ofS u = 2 from by unfold ofS; rw [if_neg h0, if_neg h1]]
      have e0 : (u == 0) = false := by simp [h0]
      have e1 : (u == 255) = false := by simp [h1]
      clear h0 h1
      go_enter Try.func28, Try.ntmps28
      go_wp2
      go_ret
      exact ⟨rfl, (Below.refl _ _).alloc (Nat.le_refl _) _⟩

theorem not8 : ∀ n : Fin 256, Go.bits .xor .u8 IntKind.u8.max (n.val : Int) = 255 - (n.val : Int) := by decide +kernel
theorem not_u8 (u : Int) (u0 : 0 ≤ u) (u1 : u ≤ 255) : Go.bits .xor .u8 IntKind.u8.max u = 255 - u := by
  have h := not8 ⟨u.toNat, by omega⟩
  simp only [Int.toNat_of_nonneg u0] at h
  exact h
theorem tz8 : ∀ n : Fin 256, n.val < 255 → tz (n.val : Int) ≤ 7 ∧ Go.bits .or .u8 (n.val : Int) (IntKind.u8.wrap (1 * 2 ^ (tz (n.val : Int)).toNat)) = (n.val : Int) + 2 ^ (tz (n.val : Int)).toNat := by decide +kernel
theorem tz_le (u : Int) (u0 : 0 ≤ u) (u1 : u < 255) : tz u ≤ 7 := by
  have h := (tz8 ⟨u.toNat, by omega⟩ (by simp; omega)).1
  simp only [Int.toNat_of_nonneg u0] at h
  exact h

theorem split_ok (o : Int) (o0 : 0 ≤ o) (o1 : o < 2048) (w : World) :
    Calls Try.prog 7 #[.int .i64 o] w fun e w' => e = .returned (.tuple #[.int .i64 (o / 8), .int .i64 (o % 8), .int .i64 0]) ∧ w = w' := by
  go_enter Try.func7, Try.ntmps7
  go_wp2_with fail
  go_ret3
  exact ⟨rfl, rfl⟩
theorem split_no (o : Int) (h : o < 0 ∨ 2048 ≤ o) (w : World) :
    Calls Try.prog 7 #[.int .i64 o] w fun e w' => e = .returned (.tuple #[.int .i64 0, .int .i64 0, .int .i64 2]) ∧ w = w' := by
  rcases h with h | h
  · go_enter Try.func7, Try.ntmps7
    go_wp2_with fail
    go_ret3
    exact ⟨rfl, rfl⟩
  · have h' : ¬ o < 0 := by omega
    go_enter Try.func7, Try.ntmps7
    go_wp2_with fail
    go_ret3
    exact ⟨rfl, rfl⟩
theorem rsplit_ok (o : Int) (o0 : 0 ≤ o) (o1 : o < 2048) (w : World) :
    Calls Try.prog 8 #[.int .i64 o] w fun e w' => e = .returned (.tuple #[.int .i64 (o / 8), .int .i64 (o % 8), .int .i64 0]) ∧ w = w' := by
  go_enter Try.func8, Try.ntmps8
  go_wp2_with fail
  go_ret3
  exact ⟨rfl, rfl⟩
theorem rsplit_no (o : Int) (h : o < 0 ∨ 2048 ≤ o) (w : World) :
    Calls Try.prog 8 #[.int .i64 o] w fun e w' => e = .returned (.tuple #[.int .i64 0, .int .i64 0, .int .i64 2]) ∧ w = w' := by
  rcases h with h | h
  · go_enter Try.func8, Try.ntmps8
    go_wp2_with fail
    go_ret3
    exact ⟨rfl, rfl⟩
  · have h' : ¬ o < 0 := by omega
    go_enter Try.func8, Try.ntmps8
    go_wp2_with fail
    go_ret3
    exact ⟨rfl, rfl⟩

theorem kc {w w1 : World} {a : Addr} {v : Value} (hb : Below w.heap.size w w1) (h : w.cell? a = some v) : w1.cell? a = some v := by
  rw [hb.cell (World.block_lt_of_cell? w _ h)]; exact h
theorem kf {w w1 : World} {a : Addr} {v : Value} (hb : Below w.heap.size w w1) (h : w.cell? a = some v) (hf : w.frozen? a = false) : w1.frozen? a = false := by
  rw [hb.frozen (World.block_lt_of_cell? w _ h)]; exact hf

/-- the bit p of u -/
def bitB (u p : Int) : Bool := (u / 2 ^ p.toNat) % 2 == 1
def au (u : Int) : Int := Go.bits .or .u8 u (2 ^ (tz u).toNat % 256)
def fu (u p : Int) : Int := Go.bits .andNot .u8 u (2 ^ p.toNat % 256)
def badF (f : Int) : Prop := f < 0 ∨ 256 ≤ f
instance (f : Int) : Decidable (badF f) := by unfold badF; exact inferInstance
def aF (f u : Int) : Int := if badF f then 0 else if u = 255 then 0 else f
def aU (f u : Int) : Int := if badF f then 0 else if u = 255 then 0 else au u
def aO (f u : Int) : Int := if badF f then 0 else if u = 255 then 0 else 8 * f + tz u
def aE (f u : Int) : Int := if badF f then 2 else if u = 255 then 5 else 0
theorem a_bad {f u : Int} (h : badF f) : aF f u = 0 ∧ aU f u = 0 ∧ aO f u = 0 ∧ aE f u = 2 := by simp [aF, aU, aO, aE, h]
theorem a_full {f u : Int} (h : ¬ badF f) (hu : u = 255) : aF f u = 0 ∧ aU f u = 0 ∧ aO f u = 0 ∧ aE f u = 5 := by simp [aF, aU, aO, aE, h, hu]
theorem a_ok {f u : Int} (h : ¬ badF f) (hu : u ≠ 255) : aF f u = f ∧ aU f u = au u ∧ aO f u = 8 * f + tz u ∧ aE f u = 0 := by simp [aF, aU, aO, aE, h, hu]

theorem fin256 {P : Int → Prop} (h : ∀ n : Fin 256, P (n.val : Int)) (u : Int) (u0 : 0 ≤ u) (u1 : u ≤ 255) : P u := by
  have := h ⟨u.toNat, by omega⟩
  simp only [Int.toNat_of_nonneg u0] at this
  exact this
theorem fin8 {P : Int → Prop} (h : ∀ n : Fin 8, P (n.val : Int)) (p : Int) (p0 : 0 ≤ p) (p1 : p < 8) : P p := by
  have := h ⟨p.toNat, by omega⟩
  simp only [Int.toNat_of_nonneg p0] at this
  exact this

/-- all that is to be known of a byte and a place, by trying all. -/
def facts (u p : Int) : Bool :=
  ((Go.bits .and .u8 (u / 2 ^ p.toNat) 1 == 0) == !bitB u p) && (((u / 2 ^ p.toNat).tmod 2 == 1) == bitB u p) &&
  (!bitB u p || (fu u p == (u - 2 ^ p.toNat % 256) % 256)) && (u == 255 || !(decide (p < tz u)) || bitB u p) && (u == 255 || !(p == tz u) || !bitB u p) &&
  (u == 255 || !(p == tz u) || (au u == (u + 2 ^ p.toNat % 256) % 256)) && (!(u == 255) || bitB u p) && (u == 255 || (decide (0 ≤ tz u) && decide (tz u ≤ 7)))
theorem facts_all : ∀ (n : Fin 256) (p : Fin 8), facts (n.val : Int) (p.val : Int) = true := by decide +kernel
theorem facts_of (u p : Int) (u0 : 0 ≤ u) (u1 : u ≤ 255) (p0 : 0 ≤ p) (p1 : p < 8) : facts u p = true :=
  fin8 (P := fun p => facts u p = true) (fun q => fin256 (P := fun u => facts u (q.val : Int) = true) (fun n => facts_all n q) u u0 u1) p p0 p1
end Go.Proofs.Ytbhbddpebhccgaa
