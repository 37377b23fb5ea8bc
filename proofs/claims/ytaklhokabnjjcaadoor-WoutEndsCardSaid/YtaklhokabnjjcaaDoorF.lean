import Derived.Test.YtaklhokabnjjcaaDoorE
namespace Go.Proofs.YtaklhokabnjjcaaDoor
open Go.RowKit
set_option linter.unusedVariables false
set_option linter.unusedSimpArgs false

theorem wr_kind {s r k p : Int} (h : k < 1 ∨ 6 < k) : wrongE s r k p = 16 := by unfold wrongE; rw [if_pos h]
theorem wr_proc {s r k p : Int} (hk : k = 4) (h : p < 1 ∨ 8 < p) : wrongE s r k p = 2 := by unfold wrongE; rw [if_neg (by omega), if_pos ⟨hk, h⟩]
theorem wr_form {s r k p : Int} (h : 1 ≤ k ∧ k ≤ 6) (hk : ¬ k = 4) (hp : ¬ p = 0) : wrongE s r k p = 3 := by unfold wrongE; rw [if_neg (by omega), if_neg (by omega), if_pos ⟨hk, hp⟩]
theorem wr_pos {s r k p : Int} (h : 1 ≤ k ∧ k ≤ 6) (h1 : k = 4 → 1 ≤ p ∧ p ≤ 8) (h2 : ¬ k = 4 → p = 0) : wrongE s r k p = posE s r k := by unfold wrongE; rw [if_neg (by omega), if_neg (by omega), if_neg (by omega)]

set_option maxHeartbeats 2000000 in
theorem rnext_chk (s r c k p : Int) (h : ¬ chk s r c = 0) (w : World) :
    Calls Tryd.prog 17 #[.agg #[.int .i64 s, .int .i64 r, .int .i64 c], .agg #[.int .i64 k, .int .i64 p]] w fun e w' =>
      e = .returned (.tuple #[.agg #[.int .i64 (nS s r c k p), .int .i64 (nR s r c k p), .int .i64 (nC s r c k p)], .int .i64 (nE s r c k p)]) ∧ Below w.heap.size w w' := by
  obtain ⟨e1, e2, e3, e4⟩ := n_bad (k := k) (p := p) h
  rw [e1, e2, e3, e4]; clear e1 e2 e3 e4
  have b1 : (chk s r c == 0) = false := by simp [h]
  have b2 : (chk s r c != 0) = true := by simp [h]
  clear h
  go_enter Tryd.func17, Tryd.ntmps17
  go_wp2_with fail
  refine (rcheck_any _ _ _ _).mono ?_
  rintro e w' ⟨rfl, rfl⟩
  go_wp2_with fail
  refine bodyPost_ret (v := .tuple #[.agg #[.int .i64 0, .int .i64 0, .int .i64 0], .int .i64 (chk s r c)]) (by simp [results, Tryd.results17, go_sem]) rfl ⟨rfl, ?_⟩
  repeat (first | exact Below.refl _ _ | refine Below.alloc ?_ (by simp <;> omega) _ | refine Below.drew ?_ | refine Below.setCell ?_ (by simp <;> omega) _)
set_option maxHeartbeats 2000000 in
theorem rnext_klo (s r c k p : Int) (h : chk s r c = 0) (hk : k < 1) (w : World) :
    Calls Tryd.prog 17 #[.agg #[.int .i64 s, .int .i64 r, .int .i64 c], .agg #[.int .i64 k, .int .i64 p]] w fun e w' =>
      e = .returned (.tuple #[.agg #[.int .i64 (nS s r c k p), .int .i64 (nR s r c k p), .int .i64 (nC s r c k p)], .int .i64 (nE s r c k p)]) ∧ Below w.heap.size w w' := by
  have hw : wrongE s r k p = 16 := wr_kind (Or.inl hk)
  obtain ⟨e1, e2, e3, e4⟩ := n_wrong (k := k) (p := p) h (by omega)
  rw [e1, e2, e3, e4, hw]; clear e1 e2 e3 e4 hw
  have H := hid h
  clear h
  go_enter Tryd.func17, Tryd.ntmps17
  go_wp2_with fail
  refine (rcheck_any _ _ _ _).mono ?_
  rintro e w' ⟨rfl, rfl⟩
  rw [H.out]
  go_wp2_with fail
  refine bodyPost_ret (v := .tuple #[.agg #[.int .i64 0, .int .i64 0, .int .i64 0], .int .i64 (16)]) (by simp [results, Tryd.results17, go_sem]) rfl ⟨rfl, ?_⟩
  repeat (first | exact Below.refl _ _ | refine Below.alloc ?_ (by simp <;> omega) _ | refine Below.drew ?_ | refine Below.setCell ?_ (by simp <;> omega) _)
set_option maxHeartbeats 2000000 in
theorem rnext_khi (s r c k p : Int) (h : chk s r c = 0) (hk : 6 < k) (w : World) :
    Calls Tryd.prog 17 #[.agg #[.int .i64 s, .int .i64 r, .int .i64 c], .agg #[.int .i64 k, .int .i64 p]] w fun e w' =>
      e = .returned (.tuple #[.agg #[.int .i64 (nS s r c k p), .int .i64 (nR s r c k p), .int .i64 (nC s r c k p)], .int .i64 (nE s r c k p)]) ∧ Below w.heap.size w w' := by
  have hw : wrongE s r k p = 16 := wr_kind (Or.inr hk)
  have hk' : ¬ k < 1 := by omega
  obtain ⟨e1, e2, e3, e4⟩ := n_wrong (k := k) (p := p) h (by omega)
  rw [e1, e2, e3, e4, hw]; clear e1 e2 e3 e4 hw
  have H := hid h
  clear h
  go_enter Tryd.func17, Tryd.ntmps17
  go_wp2_with fail
  refine (rcheck_any _ _ _ _).mono ?_
  rintro e w' ⟨rfl, rfl⟩
  rw [H.out]
  go_wp2_with fail
  refine bodyPost_ret (v := .tuple #[.agg #[.int .i64 0, .int .i64 0, .int .i64 0], .int .i64 (16)]) (by simp [results, Tryd.results17, go_sem]) rfl ⟨rfl, ?_⟩
  repeat (first | exact Below.refl _ _ | refine Below.alloc ?_ (by simp <;> omega) _ | refine Below.drew ?_ | refine Below.setCell ?_ (by simp <;> omega) _)
set_option maxHeartbeats 2000000 in
theorem rnext_plo (s r c k p : Int) (h : chk s r c = 0) (hk : k = 4) (hp : p < 1) (w : World) :
    Calls Tryd.prog 17 #[.agg #[.int .i64 s, .int .i64 r, .int .i64 c], .agg #[.int .i64 k, .int .i64 p]] w fun e w' =>
      e = .returned (.tuple #[.agg #[.int .i64 (nS s r c k p), .int .i64 (nR s r c k p), .int .i64 (nC s r c k p)], .int .i64 (nE s r c k p)]) ∧ Below w.heap.size w w' := by
  subst hk
  have hw : wrongE s r 4 p = 2 := wr_proc rfl (Or.inl hp)
  obtain ⟨e1, e2, e3, e4⟩ := n_wrong (k := 4) (p := p) h (by omega)
  rw [e1, e2, e3, e4, hw]; clear e1 e2 e3 e4 hw
  have H := hid h
  clear h
  go_enter Tryd.func17, Tryd.ntmps17
  go_wp2_with fail
  refine (rcheck_any _ _ _ _).mono ?_
  rintro e w' ⟨rfl, rfl⟩
  rw [H.out]
  go_wp2_with fail
  refine bodyPost_ret (v := .tuple #[.agg #[.int .i64 0, .int .i64 0, .int .i64 0], .int .i64 (2)]) (by simp [results, Tryd.results17, go_sem]) rfl ⟨rfl, ?_⟩
  repeat (first | exact Below.refl _ _ | refine Below.alloc ?_ (by simp <;> omega) _ | refine Below.drew ?_ | refine Below.setCell ?_ (by simp <;> omega) _)
set_option maxHeartbeats 2000000 in
theorem rnext_phi (s r c k p : Int) (h : chk s r c = 0) (hk : k = 4) (hp : 8 < p) (w : World) :
    Calls Tryd.prog 17 #[.agg #[.int .i64 s, .int .i64 r, .int .i64 c], .agg #[.int .i64 k, .int .i64 p]] w fun e w' =>
      e = .returned (.tuple #[.agg #[.int .i64 (nS s r c k p), .int .i64 (nR s r c k p), .int .i64 (nC s r c k p)], .int .i64 (nE s r c k p)]) ∧ Below w.heap.size w w' := by
  subst hk
  have hw : wrongE s r 4 p = 2 := wr_proc rfl (Or.inr hp)
  have hp' : ¬ p < 1 := by omega
  obtain ⟨e1, e2, e3, e4⟩ := n_wrong (k := 4) (p := p) h (by omega)
  rw [e1, e2, e3, e4, hw]; clear e1 e2 e3 e4 hw
  have H := hid h
  clear h
  go_enter Tryd.func17, Tryd.ntmps17
  go_wp2_with fail
  refine (rcheck_any _ _ _ _).mono ?_
  rintro e w' ⟨rfl, rfl⟩
  rw [H.out]
  go_wp2_with fail
  refine bodyPost_ret (v := .tuple #[.agg #[.int .i64 0, .int .i64 0, .int .i64 0], .int .i64 (2)]) (by simp [results, Tryd.results17, go_sem]) rfl ⟨rfl, ?_⟩
  repeat (first | exact Below.refl _ _ | refine Below.alloc ?_ (by simp <;> omega) _ | refine Below.drew ?_ | refine Below.setCell ?_ (by simp <;> omega) _)
set_option maxHeartbeats 2000000 in
theorem rnext_form (s r c k p : Int) (h : chk s r c = 0) (k0 : 1 ≤ k) (k1 : k ≤ 6) (hk : ¬ k = 4) (hp : ¬ p = 0) (w : World) :
    Calls Tryd.prog 17 #[.agg #[.int .i64 s, .int .i64 r, .int .i64 c], .agg #[.int .i64 k, .int .i64 p]] w fun e w' =>
      e = .returned (.tuple #[.agg #[.int .i64 (nS s r c k p), .int .i64 (nR s r c k p), .int .i64 (nC s r c k p)], .int .i64 (nE s r c k p)]) ∧ Below w.heap.size w w' := by
  have hw : wrongE s r k p = 3 := wr_form ⟨k0, k1⟩ hk hp
  have b1 : (k == 4) = false := by simp [hk]
  have b2 : (k != 4) = true := by simp [hk]
  have b3 : (p != 0) = true := by simp [hp]
  clear hk hp
  obtain ⟨e1, e2, e3, e4⟩ := n_wrong (k := k) (p := p) h (by omega)
  rw [e1, e2, e3, e4, hw]; clear e1 e2 e3 e4 hw
  have H := hid h
  clear h
  go_enter Tryd.func17, Tryd.ntmps17
  go_wp2_with fail
  refine (rcheck_any _ _ _ _).mono ?_
  rintro e w' ⟨rfl, rfl⟩
  rw [H.out]
  go_wp2_with fail
  refine bodyPost_ret (v := .tuple #[.agg #[.int .i64 0, .int .i64 0, .int .i64 0], .int .i64 (3)]) (by simp [results, Tryd.results17, go_sem]) rfl ⟨rfl, ?_⟩
  repeat (first | exact Below.refl _ _ | refine Below.alloc ?_ (by simp <;> omega) _ | refine Below.drew ?_ | refine Below.setCell ?_ (by simp <;> omega) _)
set_option maxHeartbeats 2000000 in
theorem rnext_4no (s r c k p : Int) (h : chk s r c = 0) (hk : k = 4) (p0 : 1 ≤ p) (p1 : p ≤ 8) (h' : ¬ posE s r k = 0) (w : World) :
    Calls Tryd.prog 17 #[.agg #[.int .i64 s, .int .i64 r, .int .i64 c], .agg #[.int .i64 k, .int .i64 p]] w fun e w' =>
      e = .returned (.tuple #[.agg #[.int .i64 (nS s r c k p), .int .i64 (nR s r c k p), .int .i64 (nC s r c k p)], .int .i64 (nE s r c k p)]) ∧ Below w.heap.size w w' := by
  obtain ⟨s0, s1, r0, r1⟩ := chk_bounds h
  subst hk
  have hw : wrongE s r 4 p = posE s r 4 := wr_pos (by omega) (by omega) (by omega)
  obtain ⟨e1, e2, e3, e4⟩ := n_wrong (k := 4) (p := p) h (by rw [hw]; exact h')
  rw [e1, e2, e3, e4, hw]; clear e1 e2 e3 e4 hw
  have b3 : (posE s r 4 == 0) = false := by simp [h']
  have b4 : (posE s r 4 != 0) = true := by simp [h']
  have H := hid h
  clear h h'
  go_enter Tryd.func17, Tryd.ntmps17
  go_wp2_with fail
  refine (rcheck_any _ _ _ _).mono ?_
  rintro e w' ⟨rfl, rfl⟩
  rw [H.out]
  go_wp2_with fail
  refine (rpos_any _ _ _ _ s0 s1 r0 r1 (by omega) (by omega) _).mono ?_
  rintro e w1 ⟨rfl, hb1⟩
  have c0 : w1.cell? ⟨w.heap.size, 0, none⟩ = some (.int .i64 s) := kc hb1 (by simp [go_sem])
  have c1 : w1.cell? ⟨w.heap.size, 1, none⟩ = some (.int .i64 r) := kc hb1 (by simp [go_sem])
  have c2 : w1.cell? ⟨w.heap.size, 2, none⟩ = some (.int .i64 c) := kc hb1 (by simp [go_sem])
  have d0 : w1.cell? ⟨w.heap.size + 1, 0, none⟩ = some (.int .i64 4) := kc hb1 (by simp [go_sem])
  have d1 : w1.cell? ⟨w.heap.size + 1, 1, none⟩ = some (.int .i64 p) := kc hb1 (by simp [go_sem])
  have q0 : w1.cell? ⟨w.heap.size + 1 + 1, 0, none⟩ = some (.int .i64 0) := kc hb1 (by simp [go_sem])
  have q1 : w1.cell? ⟨w.heap.size + 1 + 1, 1, none⟩ = some (.int .i64 0) := kc hb1 (by simp [go_sem])
  have q2 : w1.cell? ⟨w.heap.size + 1 + 1, 2, none⟩ = some (.int .i64 0) := kc hb1 (by simp [go_sem])
  have f0 : w1.frozen? ⟨w.heap.size + 1 + 1, 0, none⟩ = false := kf hb1 (v := .int .i64 0) (by simp [go_sem]) (by simp [go_sem])
  have f1 : w1.frozen? ⟨w.heap.size + 1 + 1, 1, none⟩ = false := kf hb1 (v := .int .i64 0) (by simp [go_sem]) (by simp [go_sem])
  have f2 : w1.frozen? ⟨w.heap.size + 1 + 1, 2, none⟩ = false := kf hb1 (v := .int .i64 0) (by simp [go_sem]) (by simp [go_sem])
  go_wp2_with fail
  refine bodyPost_ret (v := .tuple #[.agg #[.int .i64 0, .int .i64 0, .int .i64 0], .int .i64 (posE s r 4)]) (by simp [results, Tryd.results17, go_sem, q0, q1, q2]) rfl ⟨rfl, ?_⟩
  have hb2 := hb1.mono (B' := w.heap.size) (by simp <;> omega)
  repeat (first | exact Below.refl _ _ | refine Below.alloc ?_ (by simp <;> omega) _ | refine Below.drew ?_ | refine Below.setCell ?_ (by simp <;> omega) _ | refine Below.trans ?_ hb2)
set_option maxHeartbeats 2000000 in
theorem rnext_4ok (s r c k p : Int) (h : chk s r c = 0) (hk : k = 4) (p0 : 1 ≤ p) (p1 : p ≤ 8) (h' : posE s r k = 0) (w : World) :
    Calls Tryd.prog 17 #[.agg #[.int .i64 s, .int .i64 r, .int .i64 c], .agg #[.int .i64 k, .int .i64 p]] w fun e w' =>
      e = .returned (.tuple #[.agg #[.int .i64 (nS s r c k p), .int .i64 (nR s r c k p), .int .i64 (nC s r c k p)], .int .i64 (nE s r c k p)]) ∧ Below w.heap.size w w' := by
  obtain ⟨s0, s1, r0, r1⟩ := chk_bounds h
  subst hk
  have hw : wrongE s r 4 p = posE s r 4 := wr_pos (by omega) (by omega) (by omega)
  obtain ⟨e1, e2, e3, e4⟩ := n_ok (k := 4) (p := p) h (by rw [hw]; exact h')
  rw [e1, e2, e3, e4]; clear e1 e2 e3 e4 hw
  have H := hid h
  have H' := hid h'
  clear h h'
  go_enter Tryd.func17, Tryd.ntmps17
  go_wp2_with fail
  refine (rcheck_any _ _ _ _).mono ?_
  rintro e w' ⟨rfl, rfl⟩
  rw [H.out]
  go_wp2_with fail
  refine (rpos_any _ _ _ _ s0 s1 r0 r1 (by omega) (by omega) _).mono ?_
  rintro e w1 ⟨rfl, hb1⟩
  rw [H'.out]
  have c0 : w1.cell? ⟨w.heap.size, 0, none⟩ = some (.int .i64 s) := kc hb1 (by simp [go_sem])
  have c1 : w1.cell? ⟨w.heap.size, 1, none⟩ = some (.int .i64 r) := kc hb1 (by simp [go_sem])
  have c2 : w1.cell? ⟨w.heap.size, 2, none⟩ = some (.int .i64 c) := kc hb1 (by simp [go_sem])
  have d0 : w1.cell? ⟨w.heap.size + 1, 0, none⟩ = some (.int .i64 4) := kc hb1 (by simp [go_sem])
  have d1 : w1.cell? ⟨w.heap.size + 1, 1, none⟩ = some (.int .i64 p) := kc hb1 (by simp [go_sem])
  have q0 : w1.cell? ⟨w.heap.size + 1 + 1, 0, none⟩ = some (.int .i64 0) := kc hb1 (by simp [go_sem])
  have q1 : w1.cell? ⟨w.heap.size + 1 + 1, 1, none⟩ = some (.int .i64 0) := kc hb1 (by simp [go_sem])
  have q2 : w1.cell? ⟨w.heap.size + 1 + 1, 2, none⟩ = some (.int .i64 0) := kc hb1 (by simp [go_sem])
  have f0 : w1.frozen? ⟨w.heap.size + 1 + 1, 0, none⟩ = false := kf hb1 (v := .int .i64 0) (by simp [go_sem]) (by simp [go_sem])
  have f1 : w1.frozen? ⟨w.heap.size + 1 + 1, 1, none⟩ = false := kf hb1 (v := .int .i64 0) (by simp [go_sem]) (by simp [go_sem])
  have f2 : w1.frozen? ⟨w.heap.size + 1 + 1, 2, none⟩ = false := kf hb1 (v := .int .i64 0) (by simp [go_sem]) (by simp [go_sem])
  go_wp2_with fail
  refine (after_any _ _ _ _ _ r0 r1 (by omega) (by omega) _).mono ?_
  rintro e w2 ⟨rfl, hb2⟩
  have q0' := kc hb2 q0
  have f0' := kf hb2 q0 f0
  have q1' := kc hb2 q1
  have f1' := kf hb2 q1 f1
  have q2' := kc hb2 q2
  have f2' := kf hb2 q2 f2
  go_wp2_with fail
  refine bodyPost_ret (v := .tuple #[.agg #[.int .i64 (dS s r 4), .int .i64 (dR s r 4), .int .i64 (dC s c 4 p)], .int .i64 0]) (by simp [results, Tryd.results17, go_sem, q0', q1', q2']) rfl ⟨rfl, ?_⟩
  have hb3 := (bt hb1 hb2).mono (B' := w.heap.size) (by simp <;> omega)
  repeat (first | exact Below.refl _ _ | refine Below.alloc ?_ (by simp <;> omega) _ | refine Below.drew ?_ | refine Below.setCell ?_ (by simp <;> omega) _ | refine Below.trans ?_ hb3)
set_option maxHeartbeats 2000000 in
theorem rnext_nno (s r c k p : Int) (h : chk s r c = 0) (k0 : 1 ≤ k) (k1 : k ≤ 6) (hk : ¬ k = 4) (hp : p = 0) (h' : ¬ posE s r k = 0) (w : World) :
    Calls Tryd.prog 17 #[.agg #[.int .i64 s, .int .i64 r, .int .i64 c], .agg #[.int .i64 k, .int .i64 p]] w fun e w' =>
      e = .returned (.tuple #[.agg #[.int .i64 (nS s r c k p), .int .i64 (nR s r c k p), .int .i64 (nC s r c k p)], .int .i64 (nE s r c k p)]) ∧ Below w.heap.size w w' := by
  obtain ⟨s0, s1, r0, r1⟩ := chk_bounds h
  subst hp
  have hw : wrongE s r k 0 = posE s r k := wr_pos ⟨k0, k1⟩ (by omega) (by omega)
  have b1 : (k == 4) = false := by simp [hk]
  have b2 : (k != 4) = true := by simp [hk]
  clear hk
  obtain ⟨e1, e2, e3, e4⟩ := n_wrong (k := k) (p := 0) h (by rw [hw]; exact h')
  rw [e1, e2, e3, e4, hw]; clear e1 e2 e3 e4 hw
  have b3 : (posE s r k == 0) = false := by simp [h']
  have b4 : (posE s r k != 0) = true := by simp [h']
  have H := hid h
  clear h h'
  go_enter Tryd.func17, Tryd.ntmps17
  go_wp2_with fail
  refine (rcheck_any _ _ _ _).mono ?_
  rintro e w' ⟨rfl, rfl⟩
  rw [H.out]
  go_wp2_with fail
  refine (rpos_any _ _ _ _ s0 s1 r0 r1 (by omega) (by omega) _).mono ?_
  rintro e w1 ⟨rfl, hb1⟩
  have c0 : w1.cell? ⟨w.heap.size, 0, none⟩ = some (.int .i64 s) := kc hb1 (by simp [go_sem])
  have c1 : w1.cell? ⟨w.heap.size, 1, none⟩ = some (.int .i64 r) := kc hb1 (by simp [go_sem])
  have c2 : w1.cell? ⟨w.heap.size, 2, none⟩ = some (.int .i64 c) := kc hb1 (by simp [go_sem])
  have d0 : w1.cell? ⟨w.heap.size + 1, 0, none⟩ = some (.int .i64 k) := kc hb1 (by simp [go_sem])
  have d1 : w1.cell? ⟨w.heap.size + 1, 1, none⟩ = some (.int .i64 0) := kc hb1 (by simp [go_sem])
  have q0 : w1.cell? ⟨w.heap.size + 1 + 1, 0, none⟩ = some (.int .i64 0) := kc hb1 (by simp [go_sem])
  have q1 : w1.cell? ⟨w.heap.size + 1 + 1, 1, none⟩ = some (.int .i64 0) := kc hb1 (by simp [go_sem])
  have q2 : w1.cell? ⟨w.heap.size + 1 + 1, 2, none⟩ = some (.int .i64 0) := kc hb1 (by simp [go_sem])
  have f0 : w1.frozen? ⟨w.heap.size + 1 + 1, 0, none⟩ = false := kf hb1 (v := .int .i64 0) (by simp [go_sem]) (by simp [go_sem])
  have f1 : w1.frozen? ⟨w.heap.size + 1 + 1, 1, none⟩ = false := kf hb1 (v := .int .i64 0) (by simp [go_sem]) (by simp [go_sem])
  have f2 : w1.frozen? ⟨w.heap.size + 1 + 1, 2, none⟩ = false := kf hb1 (v := .int .i64 0) (by simp [go_sem]) (by simp [go_sem])
  go_wp2_with fail
  refine bodyPost_ret (v := .tuple #[.agg #[.int .i64 0, .int .i64 0, .int .i64 0], .int .i64 (posE s r k)]) (by simp [results, Tryd.results17, go_sem, q0, q1, q2]) rfl ⟨rfl, ?_⟩
  have hb2 := hb1.mono (B' := w.heap.size) (by simp <;> omega)
  repeat (first | exact Below.refl _ _ | refine Below.alloc ?_ (by simp <;> omega) _ | refine Below.drew ?_ | refine Below.setCell ?_ (by simp <;> omega) _ | refine Below.trans ?_ hb2)
set_option maxHeartbeats 2000000 in
theorem rnext_nok (s r c k p : Int) (h : chk s r c = 0) (k0 : 1 ≤ k) (k1 : k ≤ 6) (hk : ¬ k = 4) (hp : p = 0) (h' : posE s r k = 0) (w : World) :
    Calls Tryd.prog 17 #[.agg #[.int .i64 s, .int .i64 r, .int .i64 c], .agg #[.int .i64 k, .int .i64 p]] w fun e w' =>
      e = .returned (.tuple #[.agg #[.int .i64 (nS s r c k p), .int .i64 (nR s r c k p), .int .i64 (nC s r c k p)], .int .i64 (nE s r c k p)]) ∧ Below w.heap.size w w' := by
  obtain ⟨s0, s1, r0, r1⟩ := chk_bounds h
  subst hp
  have hw : wrongE s r k 0 = posE s r k := wr_pos ⟨k0, k1⟩ (by omega) (by omega)
  have b1 : (k == 4) = false := by simp [hk]
  have b2 : (k != 4) = true := by simp [hk]
  clear hk
  obtain ⟨e1, e2, e3, e4⟩ := n_ok (k := k) (p := 0) h (by rw [hw]; exact h')
  rw [e1, e2, e3, e4]; clear e1 e2 e3 e4 hw
  have H := hid h
  have H' := hid h'
  clear h h'
  go_enter Tryd.func17, Tryd.ntmps17
  go_wp2_with fail
  refine (rcheck_any _ _ _ _).mono ?_
  rintro e w' ⟨rfl, rfl⟩
  rw [H.out]
  go_wp2_with fail
  refine (rpos_any _ _ _ _ s0 s1 r0 r1 (by omega) (by omega) _).mono ?_
  rintro e w1 ⟨rfl, hb1⟩
  rw [H'.out]
  have c0 : w1.cell? ⟨w.heap.size, 0, none⟩ = some (.int .i64 s) := kc hb1 (by simp [go_sem])
  have c1 : w1.cell? ⟨w.heap.size, 1, none⟩ = some (.int .i64 r) := kc hb1 (by simp [go_sem])
  have c2 : w1.cell? ⟨w.heap.size, 2, none⟩ = some (.int .i64 c) := kc hb1 (by simp [go_sem])
  have d0 : w1.cell? ⟨w.heap.size + 1, 0, none⟩ = some (.int .i64 k) := kc hb1 (by simp [go_sem])
  have d1 : w1.cell? ⟨w.heap.size + 1, 1, none⟩ = some (.int .i64 0) := kc hb1 (by simp [go_sem])
  have q0 : w1.cell? ⟨w.heap.size + 1 + 1, 0, none⟩ = some (.int .i64 0) := kc hb1 (by simp [go_sem])
  have q1 : w1.cell? ⟨w.heap.size + 1 + 1, 1, none⟩ = some (.int .i64 0) := kc hb1 (by simp [go_sem])
  have q2 : w1.cell? ⟨w.heap.size + 1 + 1, 2, none⟩ = some (.int .i64 0) := kc hb1 (by simp [go_sem])
  have f0 : w1.frozen? ⟨w.heap.size + 1 + 1, 0, none⟩ = false := kf hb1 (v := .int .i64 0) (by simp [go_sem]) (by simp [go_sem])
  have f1 : w1.frozen? ⟨w.heap.size + 1 + 1, 1, none⟩ = false := kf hb1 (v := .int .i64 0) (by simp [go_sem]) (by simp [go_sem])
  have f2 : w1.frozen? ⟨w.heap.size + 1 + 1, 2, none⟩ = false := kf hb1 (v := .int .i64 0) (by simp [go_sem]) (by simp [go_sem])
  go_wp2_with fail
  refine (after_any _ _ _ _ _ r0 r1 (by omega) (by omega) _).mono ?_
  rintro e w2 ⟨rfl, hb2⟩
  have q0' := kc hb2 q0
  have f0' := kf hb2 q0 f0
  have q1' := kc hb2 q1
  have f1' := kf hb2 q1 f1
  have q2' := kc hb2 q2
  have f2' := kf hb2 q2 f2
  go_wp2_with fail
  refine bodyPost_ret (v := .tuple #[.agg #[.int .i64 (dS s r k), .int .i64 (dR s r k), .int .i64 (dC s c k 0)], .int .i64 0]) (by simp [results, Tryd.results17, go_sem, q0', q1', q2']) rfl ⟨rfl, ?_⟩
  have hb3 := (bt hb1 hb2).mono (B' := w.heap.size) (by simp <;> omega)
  repeat (first | exact Below.refl _ _ | refine Below.alloc ?_ (by simp <;> omega) _ | refine Below.drew ?_ | refine Below.setCell ?_ (by simp <;> omega) _ | refine Below.trans ?_ hb3)
set_option maxHeartbeats 2000000 in
theorem rnext_any (s r c k p : Int) (w : World) :
    Calls Tryd.prog 17 #[.agg #[.int .i64 s, .int .i64 r, .int .i64 c], .agg #[.int .i64 k, .int .i64 p]] w fun e w' =>
      e = .returned (.tuple #[.agg #[.int .i64 (nS s r c k p), .int .i64 (nR s r c k p), .int .i64 (nC s r c k p)], .int .i64 (nE s r c k p)]) ∧ Below w.heap.size w w' := by
  by_cases h : chk s r c = 0
  case neg => exact rnext_chk s r c k p h w
  by_cases k0 : 1 ≤ k
  case neg => exact rnext_klo s r c k p h (by omega) w
  by_cases k1 : k ≤ 6
  case neg => exact rnext_khi s r c k p h (by omega) w
  by_cases hk : k = 4
  · by_cases p0 : 1 ≤ p
    case neg => exact rnext_plo s r c k p h hk (by omega) w
    by_cases p1 : p ≤ 8
    case neg => exact rnext_phi s r c k p h hk (by omega) w
    by_cases h' : posE s r k = 0
    · exact rnext_4ok s r c k p h hk p0 p1 h' w
    · exact rnext_4no s r c k p h hk p0 p1 h' w
  · by_cases hp : p = 0
    case neg => exact rnext_form s r c k p h k0 k1 hk hp w
    by_cases h' : posE s r k = 0
    · exact rnext_nok s r c k p h k0 k1 hk hp h' w
    · exact rnext_nno s r c k p h k0 k1 hk hp h' w
end Go.Proofs.YtaklhokabnjjcaaDoor
