import Derived.Test.YtaklhokabnjjcaaDoorB
import Derived.Test.YtaklhokabnjjcaaDoorD
namespace Go.Proofs.YtaklhokabnjjcaaDoor
open Go.RowKit
set_option linter.unusedVariables false
set_option linter.unusedSimpArgs false

def okN (s r c k p : Int) : Prop := chk s r c = 0 ∧ wrongE s r k p = 0
instance (s r c k p : Int) : Decidable (okN s r c k p) := by unfold okN; exact inferInstance
def nS (s r c k p : Int) : Int := if okN s r c k p then dS s r k else 0
def nR (s r c k p : Int) : Int := if okN s r c k p then dR s r k else 0
def nC (s r c k p : Int) : Int := if okN s r c k p then dC s c k p else 0
def nE (s r c k p : Int) : Int := if chk s r c = 0 then wrongE s r k p else chk s r c
theorem n_bad {s r c k p : Int} (h : ¬ chk s r c = 0) : nS s r c k p = 0 ∧ nR s r c k p = 0 ∧ nC s r c k p = 0 ∧ nE s r c k p = chk s r c := by
  have hn : ¬ okN s r c k p := fun e => h e.1
  simp [nS, nR, nC, nE, hn, h]
theorem n_wrong {s r c k p : Int} (h : chk s r c = 0) (h' : ¬ wrongE s r k p = 0) : nS s r c k p = 0 ∧ nR s r c k p = 0 ∧ nC s r c k p = 0 ∧ nE s r c k p = wrongE s r k p := by
  have hn : ¬ okN s r c k p := fun e => h' e.2
  simp [nS, nR, nC, nE, hn, h]
theorem n_ok {s r c k p : Int} (h : chk s r c = 0) (h' : wrongE s r k p = 0) : nS s r c k p = dS s r k ∧ nR s r c k p = dR s r k ∧ nC s r c k p = dC s c k p ∧ nE s r c k p = 0 := by
  have hn : okN s r c k p := ⟨h, h'⟩
  simp [nS, nR, nC, nE, hn, h, h']
theorem chk_bounds {s r c : Int} (h : chk s r c = 0) : 1 ≤ s ∧ s ≤ 6 ∧ 0 ≤ r ∧ r ≤ 512 := by
  unfold chk at h
  (repeat' split at h) <;> omega
theorem wrong_kind {s r k p : Int} (h : wrongE s r k p = 0) : 1 ≤ k ∧ k ≤ 6 := by
  unfold wrongE at h
  split at h
  · omega
  · omega

set_option maxHeartbeats 2000000 in
theorem next_any (s r c k p : Int) (w : World) :
    Calls Tryd.prog 15 #[.agg #[.int .i64 s, .int .i64 r, .int .i64 c], .agg #[.int .i64 k, .int .i64 p]] w fun e w' =>
      e = .returned (.tuple #[.agg #[.int .i64 (nS s r c k p), .int .i64 (nR s r c k p), .int .i64 (nC s r c k p)], .int .i64 (nE s r c k p)]) ∧ Below w.heap.size w w' := by
  by_cases h : chk s r c = 0
  case neg =>
    obtain ⟨e1, e2, e3, e4⟩ := n_bad (k := k) (p := p) h
    rw [e1, e2, e3, e4]; clear e1 e2 e3 e4
    have b1 : (chk s r c == 0) = false := by simp [h]
    have b2 : (chk s r c != 0) = true := by simp [h]
    clear h
    go_enter Tryd.func15, Tryd.ntmps15
    go_wp2_with fail
    refine (check_any _ _ _ _).mono ?_
    rintro e w' ⟨rfl, rfl⟩
    go_wp2_with fail
    refine bodyPost_ret (v := .tuple #[.agg #[.int .i64 0, .int .i64 0, .int .i64 0], .int .i64 (chk s r c)]) (by simp [results, Tryd.results15, go_sem]) rfl ⟨rfl, ?_⟩
    repeat (first | exact Below.refl _ _ | refine Below.alloc ?_ (by simp <;> omega) _ | refine Below.drew ?_ | refine Below.setCell ?_ (by simp <;> omega) _)
  obtain ⟨s0, s1, r0, r1⟩ := chk_bounds h
  by_cases h' : wrongE s r k p = 0
  case neg =>
    obtain ⟨e1, e2, e3, e4⟩ := n_wrong h h'
    rw [e1, e2, e3, e4]; clear e1 e2 e3 e4
    have b1 : (wrongE s r k p == 0) = false := by simp [h']
    have b2 : (wrongE s r k p != 0) = true := by simp [h']
    have H := hid h
    clear h h'
    go_enter Tryd.func15, Tryd.ntmps15
    go_wp2_with fail
    refine (check_any _ _ _ _).mono ?_
    rintro e w' ⟨rfl, rfl⟩
    rw [H.out]
    go_wp2_with fail
    refine (wrong_any _ _ _ _ _ s0 s1 r0 r1 _).mono ?_
    rintro e w1 ⟨rfl, hb1⟩
    have q0 : w1.cell? ⟨w.heap.size + 1 + 1, 0, none⟩ = some (.int .i64 0) := kc hb1 (by simp [go_sem])
    have q1 : w1.cell? ⟨w.heap.size + 1 + 1, 1, none⟩ = some (.int .i64 0) := kc hb1 (by simp [go_sem])
    have q2 : w1.cell? ⟨w.heap.size + 1 + 1, 2, none⟩ = some (.int .i64 0) := kc hb1 (by simp [go_sem])
    have f0 : w1.frozen? ⟨w.heap.size + 1 + 1, 0, none⟩ = false := kf hb1 (v := .int .i64 0) (by simp [go_sem]) (by simp [go_sem])
    have f1 : w1.frozen? ⟨w.heap.size + 1 + 1, 1, none⟩ = false := kf hb1 (v := .int .i64 0) (by simp [go_sem]) (by simp [go_sem])
    have f2 : w1.frozen? ⟨w.heap.size + 1 + 1, 2, none⟩ = false := kf hb1 (v := .int .i64 0) (by simp [go_sem]) (by simp [go_sem])
    go_wp2_with fail
    refine bodyPost_ret (v := .tuple #[.agg #[.int .i64 0, .int .i64 0, .int .i64 0], .int .i64 (wrongE s r k p)]) (by simp [results, Tryd.results15, go_sem, q0, q1, q2]) rfl ⟨rfl, ?_⟩
    have hb2 := hb1.mono (B' := w.heap.size) (by simp <;> omega)
    repeat (first | exact Below.refl _ _ | refine Below.alloc ?_ (by simp <;> omega) _ | refine Below.drew ?_ | refine Below.setCell ?_ (by simp <;> omega) _ | refine Below.trans ?_ hb2)
  obtain ⟨k0, k1⟩ := wrong_kind h'
  obtain ⟨e1, e2, e3, e4⟩ := n_ok h h'
  rw [e1, e2, e3, e4]; clear e1 e2 e3 e4
  have H := hid h
  have H' := hid h'
  clear h h'
  go_enter Tryd.func15, Tryd.ntmps15
  go_wp2_with fail
  refine (check_any _ _ _ _).mono ?_
  rintro e w' ⟨rfl, rfl⟩
  rw [H.out]
  go_wp2_with fail
  refine (wrong_any _ _ _ _ _ s0 s1 r0 r1 _).mono ?_
  rintro e w1 ⟨rfl, hb1⟩
  rw [H'.out]
  have c0 : w1.cell? ⟨w.heap.size, 0, none⟩ = some (.int .i64 s) := kc hb1 (by simp [go_sem])
  have c1 : w1.cell? ⟨w.heap.size, 1, none⟩ = some (.int .i64 r) := kc hb1 (by simp [go_sem])
  have c2 : w1.cell? ⟨w.heap.size, 2, none⟩ = some (.int .i64 c) := kc hb1 (by simp [go_sem])
  have d0 : w1.cell? ⟨w.heap.size + 1, 0, none⟩ = some (.int .i64 k) := kc hb1 (by simp [go_sem])
  have d1 : w1.cell? ⟨w.heap.size + 1, 1, none⟩ = some (.int .i64 p) := kc hb1 (by simp [go_sem])
  have q0 : w1.cell? ⟨w.heap.size + 1 + 1, 0, none⟩ = some (.int .i64 0) := kc hb1 (by simp [go_sem])
  have q1 : w1.cell? ⟨w.heap.size + 1 + 1, 1, none⟩ = some (.int .i64 0) := kc hb1 (by simp [go_sem])
  have q2 : w1.cell? ⟨w.heap.size + 1 + 1, 2, none⟩ = some (.int .i64 0) := kc hb1 (by simp [go_sem])
  have f0 : w1.frozen? ⟨w.heap.size + 1 + 1, 0, none⟩ = false := kf hb1 (v := .int .i64 0) (by simp [go_sem]) (by simp [go_sem])
  have f1 : w1.frozen? ⟨w.heap.size + 1 + 1, 1, none⟩ = false := kf hb1 (v := .int .i64 0) (by simp [go_sem]) (by simp [go_sem])
  have f2 : w1.frozen? ⟨w.heap.size + 1 + 1, 2, none⟩ = false := kf hb1 (v := .int .i64 0) (by simp [go_sem]) (by simp [go_sem])
  go_wp2_with fail
  refine (does_any _ _ _ _ _ r0 r1 k0 k1 _).mono ?_
  rintro e w2 ⟨rfl, hb2⟩
  have q0' := kc hb2 q0
  have q1' := kc hb2 q1
  have q2' := kc hb2 q2
  have f0' := kf hb2 q0 f0
  have f1' := kf hb2 q1 f1
  have f2' := kf hb2 q2 f2
  go_wp2_with fail
  refine bodyPost_ret (v := .tuple #[.agg #[.int .i64 (dS s r k), .int .i64 (dR s r k), .int .i64 (dC s c k p)], .int .i64 0]) (by simp [results, Tryd.results15, go_sem, q0', q1', q2']) rfl ⟨rfl, ?_⟩
  have hb3 := (bt hb1 hb2).mono (B' := w.heap.size) (by simp <;> omega)
  repeat (first | exact Below.refl _ _ | refine Below.alloc ?_ (by simp <;> omega) _ | refine Below.drew ?_ | refine Below.setCell ?_ (by simp <;> omega) _ | refine Below.trans ?_ hb3)
end Go.Proofs.YtaklhokabnjjcaaDoor
