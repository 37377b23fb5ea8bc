import Derived.Test.YtaklhokabnjjcaaDoorRows
import Derived.Test.YtaklhokabnjjcaaDoorW
namespace Go.Proofs.YtaklhokabnjjcaaDoor
open Go.RowKit
set_option linter.unusedVariables false
set_option linter.unusedSimpArgs false

def chk (s r c : Int) : Int :=
  if s < 1 ∨ 6 < s then 9 else
  if (r < (if s = 2 ∨ s = 5 ∨ s = 6 then 0 else 1)) ∨ (if s = 6 then 0 else 512) < r then 15 else
  if (s = 3 ∧ (c < 1 ∨ 8 < c)) ∨ (s ≠ 3 ∧ c ≠ 0) then 2 else 0

theorem six (s : Int) : s = 1 ∨ s = 2 ∨ s = 3 ∨ s = 4 ∨ s = 5 ∨ s = 6 ∨ (s < 1 ∨ 6 < s) := by omega

set_option maxHeartbeats 1000000 in
theorem check_any (s r c : Int) (w : World) :
    Calls Tryd.prog 20 #[.agg #[.int .i64 s, .int .i64 r, .int .i64 c]] w fun e w' => e = .returned (.int .i64 (chk s r c)) ∧ w' = w.alloc (.cells #[.int .i64 s, .int .i64 r, .int .i64 c] 23) := by
  rcases six s with rfl | rfl | rfl | rfl | rfl | rfl | hs
  case inr.inr.inr.inr.inr.inr =>
    have e1 : (s == 1) = false := by simp; omega
    have e2 : (s == 2) = false := by simp; omega
    have e3 : (s == 3) = false := by simp; omega
    have e4 : (s == 4) = false := by simp; omega
    have e5 : (s == 5) = false := by simp; omega
    have e6 : (s == 6) = false := by simp; omega
    have H : Hid (chk s r c = 9) := by unfold chk; rw [if_pos hs]; exact hid rfl
    clear hs
    go_enter Tryd.func20, Tryd.ntmps20
    go_wp2
    go_ret
    exact ⟨ret_int H.out.symm, rfl⟩
  all_goals
    go_enter Tryd.func20, Tryd.ntmps20
    go_wp2
  all_goals (go_ret; refine ⟨ret_int ?_, rfl⟩)
  all_goals (try simp only [bne_iff_ne, bne_eq_false_iff_eq, ne_eq, beq_iff_eq, beq_eq_false_iff_ne] at *)
  all_goals (unfold chk; (repeat' split) <;> omega)

set_option maxHeartbeats 1000000 in
theorem rcheck_any (s r c : Int) (w : World) :
    Calls Tryd.prog 21 #[.agg #[.int .i64 s, .int .i64 r, .int .i64 c]] w fun e w' => e = .returned (.int .i64 (chk s r c)) ∧ w' = w.alloc (.cells #[.int .i64 s, .int .i64 r, .int .i64 c] 23) := by
  rcases six s with rfl | rfl | rfl | rfl | rfl | rfl | hs
  case inr.inr.inr.inr.inr.inr =>
    have H : Hid (chk s r c = 9) := by unfold chk; rw [if_pos hs]; exact hid rfl
    rcases hs with hs | hs
    all_goals
      go_enter Tryd.func21, Tryd.ntmps21
      go_wp2
      go_ret
      exact ⟨ret_int H.out.symm, rfl⟩
  all_goals
    go_enter Tryd.func21, Tryd.ntmps21
    go_wp2
  all_goals (go_ret; refine ⟨ret_int ?_, rfl⟩)
  all_goals (try simp only [bne_iff_ne, bne_eq_false_iff_eq, ne_eq, beq_iff_eq, beq_eq_false_iff_ne] at *)
  all_goals (unfold chk; (repeat' split) <;> omega)

def posE (s r k : Int) : Int :=
  if k = 1 then (if s = 6 then 9 else if r < 1 ∨ 512 ≤ r then 15 else 0)
  else if k = 2 then (if s = 6 then 9 else if r < 1 ∨ (s = 3 ∧ r < 2) then 15 else 0)
  else if k = 3 then (if s ≠ 1 then 9 else 0)
  else if k = 4 then (if s ≠ 2 then 9 else if r < 1 then 15 else 0)
  else if k = 5 then (if s ≠ 3 then 9 else 0)
  else if s ≠ 2 ∧ s ≠ 3 then 9 else 0
def wrongE (s r k p : Int) : Int :=
  if k < 1 ∨ 6 < k then 16 else if k = 4 ∧ (p < 1 ∨ 8 < p) then 2 else if k ≠ 4 ∧ p ≠ 0 then 3 else posE s r k

theorem results_tmp4 {fn : Func} {t u v x : Tmp} (h : fn.results = #[.tmp t, .tmp u, .tmp v, .tmp x]) (tmps : Array Value) (P : Program) (w : World) :
    (results fn tmps).run P w = .ok (.tuple #[tmps.getD t undef, tmps.getD u undef, tmps.getD v undef, tmps.getD x undef]) w := by simp [results, h]

end Go.Proofs.YtaklhokabnjjcaaDoor
