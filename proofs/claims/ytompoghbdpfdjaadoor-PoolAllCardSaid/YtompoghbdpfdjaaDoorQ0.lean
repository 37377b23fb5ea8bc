/- Words for the plain laws of the pool. Conditions: enough rounds. -/
import Derived.Test.YtompoghbdpfdjaaDoorPAx1
import Derived.Test.YtompoghbdpfdjaaDoorM6
namespace Go.Proofs.YtompoghbdpfdjaaDoor.PA
open Go.RowKit Go.Proofs.YtompoghbdpfdjaaDoorW.PrintWords Go.Proofs.YtompoghbdpfdjaaDoorW.PrintLast Go.Proofs.YtompoghbdpfdjaaDoorW.PrintMore
set_option linter.unusedVariables false
set_option linter.unusedSimpArgs false

theorem bind_eq {α β : Type} {x : Option α} {f : α → Option β} {a : α} {r : Option β} (h : x = some a) (k : f a = r) : x.bind f = r := by rw [h]; exact k
theorem ite_eq {α : Type} {p : Prop} [Decidable p] {x y r : α} (h : p) (k : x = r) : (if p then x else y) = r := by rw [if_pos h]; exact k
theorem ite_ne {α : Type} {p : Prop} [Decidable p] {x y r : α} (h : ¬ p) (k : y = r) : (if p then x else y) = r := by rw [if_neg h]; exact k
theorem same_l0 (l : List Int) (hl : l.length ≤ 1000) : ∀ (m j k : Nat), j + m = l.length → m + 1 ≤ k → headgatekit_SameInts.l0 k l l (j : Int) = some true := by
  intro m
  induction m with
  | zero =>
    intro j k hj hk
    obtain ⟨k, rfl⟩ : ∃ m, k = m + 1 := ⟨k - 1, by omega⟩
    rw [headgatekit_SameInts.l0, if_neg (by omega)]
  | succ m ih =>
    intro j k hj hk
    obtain ⟨k, rfl⟩ : ∃ m, k = m + 1 := ⟨k - 1, by omega⟩
    rw [headgatekit_SameInts.l0, if_pos (by omega), if_pos (by omega), if_pos (by omega), if_pos rfl, w64s (show j < l.length by omega) (by omega)]
    exact ih (j + 1) k (by omega) (by omega)
theorem same (l : List Int) (hl : l.length ≤ 1000) (k : Nat) (hk : l.length + 1 ≤ k) : headgatekit_SameInts.f k l l = some true := by
  unfold headgatekit_SameInts.f
  rw [if_pos rfl]
  exact same_l0 l hl l.length 0 k (by omega) (by omega)
theorem samep (a : Int) (l : List Int) (hl : l.length ≤ 1000) (k : Nat) (hk : l.length + 1 ≤ k) : headgatekit_SamePool.f k a l a l = some true := by
  unfold headgatekit_SamePool.f
  rw [if_pos rfl, same l hl k hk]
  rfl
theorem flt_len (p : Int → Bool) (n : Nat) : ((upto n).filter p).length ≤ n := Nat.le_trans (List.length_filter_le _ _) (by rw [upto_len]; omega)
theorem chk_of_ask {sz : Int} {l : List Int} {d : Int} (h : askE sz l d = 0) : (chkE sz l).1 = 0 := by
  unfold askE at h
  by_cases z : (chkE sz l).1 = 0
  · exact z
  · rw [if_neg z] at h; exact absurd h z
theorem ask_range {sz : Int} {l : List Int} {d : Int} (h : askE sz l d = 0) : 0 ≤ d ∧ d < sz ∧ sz ≤ 32 := by
  have c := chk_of_ask h
  have := (chkE_ok c).2.1
  unfold askE at h
  rw [if_pos c] at h
  by_cases z : d < 0 ∨ sz ≤ d
  · rw [if_pos z] at h; exact absurd h (by decide)
  · omega
end Go.Proofs.YtompoghbdpfdjaaDoor.PA
namespace Go.Proofs.YtompoghbdpfdjaaDoor
open Go.RowKit
/-- A slice of integers that came in: nil, or a row of 'cap' cells of which the first 'len' are its elements. -/
def IsRow (k : IntKind) (w : World) (a : Option Addr) (len cap : Nat) (zs : List Int) : Prop :=
  (a = none ∧ len = 0 ∧ cap = 0 ∧ zs = []) ∨
  ∃ x, a = some x ∧ len ≤ cap ∧ cap ≤ maxLen ∧ zs.length = cap ∧ (∀ i, i < zs.length → w.cell? (x.add i) = some (.int k (zs.getD i 0))) ∧ ∀ n ∈ zs, (Lit.int k n).wf = true
end Go.Proofs.YtompoghbdpfdjaaDoor
