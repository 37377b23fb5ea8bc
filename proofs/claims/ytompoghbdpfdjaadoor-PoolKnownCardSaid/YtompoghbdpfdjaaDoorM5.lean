/- Plain closed forms of the pool's functions. No condition. -/
import Derived.Test.YtompoghbdpfdjaaDoorM4
namespace Go.Proofs.YtompoghbdpfdjaaDoor
open Go.RowKit Go.Conc
set_option linter.unusedVariables false
set_option linter.unusedSimpArgs false

def chkL (sz : Int) (l : List Int) : Nat → Nat → Int × Int
  | 0, _ => (0, 0)
  | n + 1, i => if l[i]?.getD 0 < 0 ∨ sz ≤ l[i]?.getD 0 then (2, (i : Int)) else if 0 < i ∧ l[i]?.getD 0 ≤ l[i - 1]?.getD 0 then (8, (i : Int)) else chkL sz l n (i + 1)
/-- Check -/
def chkE (sz : Int) (l : List Int) : Int × Int := if sz < 1 ∨ 32 < sz then (2, 0) else chkL sz l l.length 0
/-- the error of a pool and a descriptor -/
def askE (sz : Int) (l : List Int) (d : Int) : Int := if (chkE sz l).1 = 0 then (if d < 0 ∨ sz ≤ d then 2 else 0) else (chkE sz l).1
def newE (n : Int) : Int × List Int × Int := if n < 1 ∨ 32 < n then (0, [], 2) else (n, upto n.toNat, 0)
def frmE (n : Int) : Int × Int := if n < 1 ∨ 32 < n then (0, 2) else ((n - 1) / 8 + 1, 0)
def tk0 (sz : Int) : List Int → Int × List Int × Int × Int
  | [] => (0, [], 0, 5)
  | x :: t => (sz, t, x, 0)
def takE (sz : Int) (l : List Int) : Int × List Int × Int × Int := if (chkE sz l).1 = 0 then tk0 sz l else (0, [], 0, (chkE sz l).1)
def givE (sz : Int) (l : List Int) (d : Int) : Int × List Int × Int :=
  if askE sz l d = 0 then (if d ∈ l then (0, [], 7) else (sz, (upto sz.toNat).filter (fun i => decide (i = d) || decide (i ∈ l)), 0)) else (0, [], askE sz l d)
def tkdE (sz : Int) (l : List Int) : List Int × Int :=
  if (chkE sz l).1 = 0 then ((upto sz.toNat).filter (fun i => !decide (i ∈ l)), 0) else ([], (chkE sz l).1)
def homE (sz : Int) (l : List Int) (d : Int) : Int × Int × Int := if askE sz l d = 0 then (d / 8, d % 8, 0) else (0, 0, askE sz l d)
/-- closed forms are for lists of at most 1000 numbers -/
def onE {α : Type} (l : List Int) (r : α) : Option α := if l.length ≤ 1000 then some r else none
theorem onE_some {α : Type} {l : List Int} {r q : α} (h : onE l r = some q) : l.length ≤ 1000 ∧ r = q := by
  unfold onE at h; split at h
  · exact ⟨‹_›, Option.some.inj h⟩
  · cases h
theorem onE_of {α : Type} {l : List Int} (h : l.length ≤ 1000) (r : α) : onE l r = some r := if_pos h

theorem chkL_ok (sz : Int) (l : List Int) : ∀ n i, (chkL sz l n i).1 = 0 → ∀ j, i ≤ j → j < i + n → 0 ≤ l[j]?.getD 0 ∧ l[j]?.getD 0 < sz ∧ (0 < j → l[j - 1]?.getD 0 < l[j]?.getD 0) := by
  intro n
  induction n with
  | zero => intro i _ j h1 h2; omega
  | succ n ih =>
    intro i h j h1 h2
    rw [chkL] at h
    by_cases c1 : l[i]?.getD 0 < 0 ∨ sz ≤ l[i]?.getD 0
    · rw [if_pos c1] at h; exact absurd (show (2 : Int) = 0 from h) (by decide)
    · rw [if_neg c1] at h
      by_cases c2 : 0 < i ∧ l[i]?.getD 0 ≤ l[i - 1]?.getD 0
      · rw [if_pos c2] at h; exact absurd (show (8 : Int) = 0 from h) (by decide)
      · rw [if_neg c2] at h
        by_cases e : j = i
        · subst e; exact ⟨by omega, by omega, fun hj => by omega⟩
        · exact ih (i + 1) h j (by omega) (by omega)
theorem chkL_bad (sz : Int) (l : List Int) : ∀ n i, (chkL sz l n i).1 = 0 ∨ (chkL sz l n i).1 = 2 ∨ (chkL sz l n i).1 = 8 := by
  intro n
  induction n with
  | zero => intro i; exact .inl rfl
  | succ n ih =>
    intro i
    rw [chkL]
    split
    · exact .inr (.inl rfl)
    · split
      · exact .inr (.inr rfl)
      · exact ih _
theorem chkE_cases (sz : Int) (l : List Int) : (chkE sz l).1 = 0 ∨ (chkE sz l).1 = 2 ∨ (chkE sz l).1 = 8 := by
  unfold chkE; split
  · exact .inr (.inl rfl)
  · exact chkL_bad _ _ _ _
theorem chkE_ok {sz : Int} {l : List Int} (h : (chkE sz l).1 = 0) : 1 ≤ sz ∧ sz ≤ 32 ∧ ∀ j, j < l.length → 0 ≤ l[j]?.getD 0 ∧ l[j]?.getD 0 < sz ∧ (0 < j → l[j - 1]?.getD 0 < l[j]?.getD 0) := by
  unfold chkE at h
  by_cases c : sz < 1 ∨ 32 < sz
  · rw [if_pos c] at h; exact absurd h (by decide)
  · rw [if_neg c] at h
    exact ⟨by omega, by omega, fun j hj => chkL_ok sz l _ _ h j (Nat.zero_le _) (by omega)⟩
theorem chkE_ge {sz : Int} {l : List Int} (h : (chkE sz l).1 = 0) : ∀ j, j < l.length → (j : Int) ≤ l[j]?.getD 0 := by
  obtain ⟨_, _, H⟩ := chkE_ok h
  intro j
  induction j with
  | zero => intro hj; have := (H 0 hj).1; omega
  | succ j ih =>
    intro hj
    have h1 := ih (by omega)
    have h2 := (H (j + 1) hj).2.2 (by omega)
    rw [Nat.add_sub_cancel] at h2
    omega
theorem chkE_len {sz : Int} {l : List Int} (h : (chkE sz l).1 = 0) : (l.length : Int) ≤ sz ∧ l.length ≤ 32 := by
  obtain ⟨h1, h2, H⟩ := chkE_ok h
  cases hl : l.length with
  | zero => constructor <;> omega
  | succ n =>
    have a := chkE_ge h n (by omega)
    have b := (H n (by omega)).2.1
    constructor <;> omega
theorem chkE_mem {sz : Int} {l : List Int} (h : (chkE sz l).1 = 0) : ∀ x ∈ l, 0 ≤ x ∧ x < sz := by
  obtain ⟨h1, h2, H⟩ := chkE_ok h
  intro x hx
  obtain ⟨i, hi, rfl⟩ := List.getElem_of_mem hx
  have := H i hi
  rw [List.getElem?_eq_getElem hi] at this
  exact ⟨this.1, this.2.1⟩

/-- the free descriptors as a set -/
def setN (l : List Int) : Nat := l.foldl (fun s x => s ||| (1 <<< x.toNat)) 0
theorem setN_snoc (l : List Int) (x : Int) : setN (l ++ [x]) = setN l ||| (1 <<< x.toNat) := by simp [setN, List.foldl_append]
theorem setN_fold (l : List Int) : ∀ (s i : Nat), (l.foldl (fun s x => s ||| (1 <<< x.toNat)) s).testBit i = (s.testBit i || l.any (fun x => x.toNat == i)) := by
  induction l with
  | nil => intro s i; simp
  | cons x l ih =>
    intro s i
    rw [List.foldl_cons, ih, Nat.testBit_or, List.any_cons, Bool.or_assoc]
    congr 2
    rw [Nat.shiftLeft_eq, Nat.one_mul, Nat.testBit_two_pow]
    rfl
theorem setN_bit (l : List Int) (i : Nat) (hl : ∀ x ∈ l, 0 ≤ x) : (setN l).testBit i = decide ((i : Int) ∈ l) := by
  unfold setN
  rw [setN_fold, Nat.zero_testBit, Bool.false_or, Bool.eq_iff_iff]
  simp only [List.any_eq_true, beq_iff_eq, decide_eq_true_eq]
  constructor
  · rintro ⟨x, hx, rfl⟩
    rw [Int.toNat_of_nonneg (hl x hx)]; exact hx
  · intro h
    exact ⟨_, h, by simp⟩
theorem setN_lt (l : List Int) (hl : ∀ x ∈ l, 0 ≤ x ∧ x < 32) : setN l < 4294967296 := by
  have : setN l < 2 ^ 32 := Nat.lt_pow_two_of_testBit _ fun i hi => by
    rw [setN_bit l i (fun x hx => (hl x hx).1)]
    simp only [decide_eq_false_iff_not]
    intro h
    have := (hl _ h).2
    omega
  exact this
/-- the bits of a number below 2^n, as numbers -/
theorem lst_filter (n x : Nat) (h : x < 2 ^ n) (hn : n ≤ 32) : Lst x ((upto n).filter (fun i => x.testBit i.toNat)) := by
  have := lst_bits n x h hn
  rw [bitsL_eq] at this
  have e : ((List.range n).filter (fun i => x.testBit i)).map (fun i : Nat => (i : Int)) = (upto n).filter (fun i => x.testBit i.toNat) := by
    unfold upto
    rw [List.filter_map]
    congr 1
  rw [e] at this
  exact this
theorem filter_wide (p : Int → Bool) (n : Nat) (hp : ∀ i : Nat, n ≤ i → p i = false) : ∀ m, n ≤ m → (upto m).filter p = (upto n).filter p := by
  intro m
  induction m with
  | zero => intro h; obtain rfl : n = 0 := by omega
            rfl
  | succ m ih =>
    intro h
    by_cases e : n = m + 1
    · rw [e]
    · rw [upto_succ, List.filter_append, ih (by omega)]
      simp [hp m (by omega)]
end Go.Proofs.YtompoghbdpfdjaaDoor
