/- The contract of pool.listed: the numbers of the bits of a set, ascending; and the plain law of its bits. Condition: the table of math/bits as it is laid; a set below 2^32. -/
import Derived.Test.YtompoghbdpfdjaaDoorM2
import Derived.Laws.Bits64b
namespace Go.Proofs.YtompoghbdpfdjaaDoor
open Go.RowKit Go.Conc Go.Proofs.YtompoghbdpfdjaaDoorW.PrintWords Go.Proofs.YtompoghbdpfdjaaDoorW.PrintLast Go.Proofs.YtompoghbdpfdjaaDoorW.PrintMore
set_option linter.unusedVariables false
set_option linter.unusedSimpArgs false

/-- l lists the bits of x, the lowest first -/
inductive Lst : Nat → List Int → Prop where
  | nil : Lst 0 []
  | cons (x : Nat) (l : List Int) (h0 : x ≠ 0) (h : Lst (x &&& (x - 1)) l) : Lst x (((Lib.ctz 32 x : Nat) : Int) :: l)
/-- the bits of x below n -/
def bitsL : Nat → Nat → List Nat
  | 0, _ => []
  | n + 1, x => (if x % 2 = 1 then [0] else []) ++ (bitsL n (x / 2)).map (· + 1)
theorem bitsL_eq : ∀ n x, bitsL n x = (List.range n).filter (fun i => x.testBit i) := by
  intro n
  induction n with
  | zero => intro x; rfl
  | succ n ih =>
    intro x
    rw [bitsL, ih, List.range_succ_eq_map, List.filter_cons, List.filter_map]
    have e : ((fun i => x.testBit i) ∘ Nat.succ) = fun i => (x / 2).testBit i := by funext i; simp [Nat.testBit_succ]
    rw [e, Nat.testBit_zero]
    by_cases h : x % 2 = 1 <;> simp [h]
theorem and_pred_even (y : Nat) (hy : y ≠ 0) : (2 * y) &&& (2 * y - 1) = 2 * (y &&& (y - 1)) := by
  apply Nat.eq_of_testBit_eq
  intro i
  cases i with
  | zero => simp [Nat.testBit_zero]
  | succ i =>
    rw [Nat.testBit_and, Nat.testBit_succ, Nat.testBit_succ, Nat.testBit_succ, show 2 * y / 2 = y by omega, show (2 * y - 1) / 2 = y - 1 by omega, show 2 * (y &&& (y - 1)) / 2 = y &&& (y - 1) by omega, Nat.testBit_and]
theorem and_pred_odd (y : Nat) : (2 * y + 1) &&& (2 * y + 1 - 1) = 2 * y := by
  apply Nat.eq_of_testBit_eq
  intro i
  cases i with
  | zero => simp [Nat.testBit_zero]
  | succ i =>
    rw [Nat.testBit_and, Nat.testBit_succ, Nat.testBit_succ, Nat.testBit_succ, show (2 * y + 1) / 2 = y by omega, show (2 * y + 1 - 1) / 2 = y by omega, show 2 * y / 2 = y by omega, Bool.and_self]
theorem ctz_fuel : ∀ (f g x : Nat), 0 < x → x < 2 ^ f → x < 2 ^ g → Lib.ctzFrom f x = Lib.ctzFrom g x := by
  intro f
  induction f with
  | zero => intro g x h0 h; simp at h; omega
  | succ f ih =>
    intro g x h0 h hg
    cases g with
    | zero => simp at hg; omega
    | succ g =>
      unfold Lib.ctzFrom
      by_cases h1 : x % 2 = 1
      · rw [if_pos h1, if_pos h1]
      · rw [if_neg h1, if_neg h1, ih g (x / 2) (by omega) (by rw [Nat.pow_succ] at h; omega) (by rw [Nat.pow_succ] at hg; omega)]
theorem ctz_even (y : Nat) (hy : y ≠ 0) (h : 2 * y < 2 ^ 32) : Lib.ctz 32 (2 * y) = Lib.ctz 32 y + 1 := by
  unfold Lib.ctz
  rw [if_neg (by omega), if_neg hy, show (32 : Nat) = 31 + 1 from rfl, Lib.ctzFrom, if_neg (by omega), show 2 * y / 2 = y by omega, ctz_fuel 31 (31 + 1) y (by omega) (by omega) (by omega)]
  omega
theorem ctz_odd (y : Nat) : Lib.ctz 32 (2 * y + 1) = 0 := by
  unfold Lib.ctz
  rw [if_neg (by omega), show (32 : Nat) = 31 + 1 from rfl, Lib.ctzFrom, if_pos (by omega)]
theorem Lst.twice {y : Nat} {l : List Int} (h : Lst y l) : 2 * y < 2 ^ 32 → Lst (2 * y) (l.map (· + 1)) := by
  induction h with
  | nil => intro _; exact .nil
  | cons x l h0 h ih =>
    intro hb
    have h1 : x &&& (x - 1) ≤ x := Nat.and_le_left
    have := ih (by omega)
    rw [List.map_cons, show ((Lib.ctz 32 x : Nat) : Int) + 1 = ((Lib.ctz 32 (2 * x) : Nat) : Int) by rw [ctz_even x h0 hb]; rfl]
    refine .cons _ _ (by omega) ?_
    rw [and_pred_even x h0]
    exact this
theorem lst_bits : ∀ n x, x < 2 ^ n → n ≤ 32 → Lst x ((bitsL n x).map (fun i : Nat => (i : Int))) := by
  intro n
  induction n with
  | zero => intro x h _; obtain rfl : x = 0 := by simp at h; exact h
            exact .nil
  | succ n ih =>
    intro x h hn
    have hp : 2 ^ (n + 1) ≤ 2 ^ 32 := Nat.pow_le_pow_right (by decide) hn
    rw [Nat.pow_succ] at h hp
    have h2 := (ih (x / 2) (by omega) (by omega)).twice (by omega)
    have e : ((bitsL n (x / 2)).map (fun i : Nat => (i : Int))).map (· + 1) = ((bitsL n (x / 2)).map (· + 1)).map (fun i : Nat => (i : Int)) := by
      rw [List.map_map, List.map_map]; rfl
    rw [e] at h2
    rw [bitsL]
    by_cases h1 : x % 2 = 1
    · rw [if_pos h1]
      have hx : x = 2 * (x / 2) + 1 := by omega
      have hc : ((0 : Nat) : Int) = ((Lib.ctz 32 x : Nat) : Int) := by rw [hx, ctz_odd]
      rw [List.singleton_append, List.map_cons, hc]
      refine .cons _ _ (by omega) ?_
      have ha : x &&& (x - 1) = 2 * (x / 2) := by have := and_pred_odd (x / 2); rw [← hx] at this; exact this
      rw [ha]
      exact h2
    · rw [if_neg h1, List.nil_append]
      have hx : x = 2 * (x / 2) := by omega
      rw [← hx] at h2
      exact h2
theorem Lst.len {x : Nat} {l : List Int} (h : Lst x l) : l.length ≤ x := by
  induction h with
  | nil => exact Nat.le_refl _
  | cons x l h0 h ih => have := @Nat.and_le_right x (x - 1); simp; omega

set_option maxHeartbeats 2000000 in
set_option maxRecDepth 100000 in
theorem listed_any (x : Nat) (l : List Int) (hx : x < 4294967296) (hl : Lst x l) (hn : l.length ≤ 100) (w : World) (gc : GC w) :
    Calls Tryd.prog 37 #[.int .u32 x] w fun e w' => ∃ v, e = .returned v ∧ Kd.R (Kd.int .i64) 3 w' w.heap.size (fun _ => True) v l ∧ Below w.heap.size w w' := by
  go_enter Tryd.func37, Tryd.ntmps37
  go_wp2
  go_loopw [0, 3] (fun v0 u wr => ∃ (y : Nat) (dn rs : List Int), y < 4294967296 ∧ v0 = .int .u32 y ∧ Lst y rs ∧ dn ++ rs = l ∧ Aside0 (Kd.R (Kd.int .i64) 3 wr w.heap.size (fun _ => True) u dn) ∧ Aside0 (Below w.heap.size w wr)) (fun v _ _ => (intOf v).toNat)
  case atStart => exact ⟨x, [], l, hx, rfl, hl, rfl, ⟨Kd.R_nil _ _ _ _ _⟩, ⟨Below.refl _ _⟩⟩
  case round =>
    obtain ⟨y, dn, rs, hy, rfl, hrs, hl', HO, HB⟩ := hrel
    have gcr := gcB gc HB.out
    cases hrs with
    | nil =>
      obtain rfl : dn = l := by simpa using hl'
      go_wp2
      go_ret
      exact ⟨_, rfl, HO.out, HB.out⟩
    | cons _ rs h0 h =>
      have hlen : dn.length < 100 := by have := congrArg List.length hl'; simp at this; omega
      have c0 : ((y : Int) == 0) = false := by simp; omega
      have c1 : ((y : Int) != 0) = true := by simp; omega
      have H := Lib.hid h
      have HL := Lib.hid hl'
      clear h hl'
      go_wp2_with (first
        | (go_at_call 40; refine (tz_any y h0 hy _ gcr).mono ?_; rintro e w' ⟨rfl, rfl⟩)
        | ((with_reducible refine gate_builtin (b := .append) (xs := #[.tmp 10, .tmp 13]) rfl ?_); at_builtin; refine Kd.R_append (Kd.int .i64) (w0 := w) w.heap.size rfl (.tmp 10) (.tmp 13) 22 3 (.int .i64 0) 8 rfl Tryd.underlying22 info3 rfl (by decide) (by omega) _ dn ((Lib.ctz 32 y : Nat) : Int) [.int .i64 ((Lib.ctz 32 y : Nat) : Int)] (fun _ => True) (fun _ => False) rfl rfl ?aP (fun _ hk => hk.elim) ?aF ?aO ?aB ?aS ?aL ?_; (case aP => exact rfl); (case aB => exact HB.out); (case aF => exact (fun _ _ => trivial)); (case aO => exact HO.out); (case aS => exact HB.out.size); (case aL => omega); intro v1 w1 ho hb hg hat))
      have e1 : ((y : Int) - 1) = ((y - 1 : Nat) : Int) := by omega
      have e2 : bits BinOp.and IntKind.u32 (y : Int) ((y : Int) - 1) = ((y &&& (y - 1) : Nat) : Int) := by rw [e1]; exact bits_and_u32_nat y (y - 1) hy (by omega)
      have e3 : y &&& (y - 1) ≤ y - 1 := Nat.and_le_right
      rw [e2]
      refine ⟨⟨y &&& (y - 1), _, rs, by omega, rfl, H.out, by simpa using HL.out, ⟨ho⟩, ⟨hb⟩⟩, ?_⟩
      simp only [intOf, Int.toNat_natCast]
      omega
end Go.Proofs.YtompoghbdpfdjaaDoor
