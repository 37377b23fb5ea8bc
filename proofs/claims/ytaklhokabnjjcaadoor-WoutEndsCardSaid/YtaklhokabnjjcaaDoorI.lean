import Derived.Test.YtaklhokabnjjcaaDoorH
namespace Go.Proofs.YtaklhokabnjjcaaDoor
open Go.RowKit
set_option linter.unusedVariables false
set_option linter.unusedSimpArgs false

/-- the package variable 'claim' -/
def GC (w : World) : Prop := w.cell? ⟨0, 0, none⟩ = some (.int .i64 4) ∧ w.cell? ⟨0, 1, none⟩ = some (.int .i64 3)
theorem GC.below {w w1 : World} (h : GC w) (hb : Below w.heap.size w w1) : GC w1 := ⟨kc hb h.1, kc hb h.2⟩

theorem ev_any (k : Int) (w : World) :
    Calls Tryd.prog 16 #[.int .i64 k] w fun e w' => e = .returned (.agg #[.int .i64 k, .int .i64 0]) ∧ w.alloc (.cells #[.int .i64 k, .int .i64 0] 37) = w' := by
  go_enter Tryd.func16, Tryd.ntmps16
  go_wp2
  exact bodyPost_ret (v := .agg #[.int .i64 k, .int .i64 0]) (by simp [results, Tryd.results16, go_sem]) rfl ⟨rfl, rfl⟩

def bgE (n : Int) : Int := if n < 1 ∨ 512 < n then 15 else 0
def bgS (n : Int) : Int := if n < 1 ∨ 512 < n then 0 else 1
def bgR (n : Int) : Int := if n < 1 ∨ 512 < n then 0 else n
theorem begin_any (n : Int) (w : World) :
    Calls Tryd.prog 12 #[.int .i64 n] w fun e w' => e = .returned (.tuple #[.agg #[.int .i64 (bgS n), .int .i64 (bgR n), .int .i64 0], .int .i64 (bgE n)]) ∧ Below w.heap.size w w' := by
  by_cases h : n < 1
  · rw [show bgE n = 15 from if_pos (Or.inl h), show bgS n = 0 from if_pos (Or.inl h), show bgR n = 0 from if_pos (Or.inl h)]
    go_enter Tryd.func12, Tryd.ntmps12
    go_wp2
    refine bodyPost_ret (v := .tuple #[.agg #[.int .i64 0, .int .i64 0, .int .i64 0], .int .i64 15]) (by simp [results, Tryd.results12, go_sem]) rfl ⟨rfl, ?_⟩
    repeat (first | exact Below.refl _ _ | refine Below.alloc ?_ (by simp <;> omega) _ | refine Below.setCell ?_ (by simp <;> omega) _)
  · by_cases h' : 512 < n
    · rw [show bgE n = 15 from if_pos (Or.inr h'), show bgS n = 0 from if_pos (Or.inr h'), show bgR n = 0 from if_pos (Or.inr h')]
      go_enter Tryd.func12, Tryd.ntmps12
      go_wp2
      refine bodyPost_ret (v := .tuple #[.agg #[.int .i64 0, .int .i64 0, .int .i64 0], .int .i64 15]) (by simp [results, Tryd.results12, go_sem]) rfl ⟨rfl, ?_⟩
      repeat (first | exact Below.refl _ _ | refine Below.alloc ?_ (by simp <;> omega) _ | refine Below.setCell ?_ (by simp <;> omega) _)
    · rw [show bgE n = 0 from if_neg (by omega), show bgS n = 1 from if_neg (by omega), show bgR n = n from if_neg (by omega)]
      go_enter Tryd.func12, Tryd.ntmps12
      go_wp2
      refine bodyPost_ret (v := .tuple #[.agg #[.int .i64 1, .int .i64 n, .int .i64 0], .int .i64 0]) (by simp [results, Tryd.results12, go_sem]) rfl ⟨rfl, ?_⟩
      repeat (first | exact Below.refl _ _ | refine Below.alloc ?_ (by simp <;> omega) _ | refine Below.setCell ?_ (by simp <;> omega) _)
theorem rbegin_any (n : Int) (w : World) :
    Calls Tryd.prog 13 #[.int .i64 n] w fun e w' => e = .returned (.tuple #[.agg #[.int .i64 (bgS n), .int .i64 (bgR n), .int .i64 0], .int .i64 (bgE n)]) ∧ Below w.heap.size w w' := by
  by_cases h : n < 1
  · rw [show bgE n = 15 from if_pos (Or.inl h), show bgS n = 0 from if_pos (Or.inl h), show bgR n = 0 from if_pos (Or.inl h)]
    go_enter Tryd.func13, Tryd.ntmps13
    go_wp2
    refine bodyPost_ret (v := .tuple #[.agg #[.int .i64 0, .int .i64 0, .int .i64 0], .int .i64 15]) (by simp [results, Tryd.results13, go_sem]) rfl ⟨rfl, ?_⟩
    repeat (first | exact Below.refl _ _ | refine Below.alloc ?_ (by simp <;> omega) _ | refine Below.setCell ?_ (by simp <;> omega) _)
  · by_cases h' : 512 < n
    · rw [show bgE n = 15 from if_pos (Or.inr h'), show bgS n = 0 from if_pos (Or.inr h'), show bgR n = 0 from if_pos (Or.inr h')]
      go_enter Tryd.func13, Tryd.ntmps13
      go_wp2
      refine bodyPost_ret (v := .tuple #[.agg #[.int .i64 0, .int .i64 0, .int .i64 0], .int .i64 15]) (by simp [results, Tryd.results13, go_sem]) rfl ⟨rfl, ?_⟩
      repeat (first | exact Below.refl _ _ | refine Below.alloc ?_ (by simp <;> omega) _ | refine Below.setCell ?_ (by simp <;> omega) _)
    · rw [show bgE n = 0 from if_neg (by omega), show bgS n = 1 from if_neg (by omega), show bgR n = n from if_neg (by omega)]
      go_enter Tryd.func13, Tryd.ntmps13
      go_wp2
      refine bodyPost_ret (v := .tuple #[.agg #[.int .i64 1, .int .i64 n, .int .i64 0], .int .i64 0]) (by simp [results, Tryd.results13, go_sem]) rfl ⟨rfl, ?_⟩
      repeat (first | exact Below.refl _ _ | refine Below.alloc ?_ (by simp <;> omega) _ | refine Below.setCell ?_ (by simp <;> omega) _)

/-- the law's own 'run', from a page with 2 entries on -/
theorem runl_two (A : Option Addr) (cap : Nat) (evs : List (Int × Int)) (hl : evs.length ≤ 9223372036854775807) (w : World) (hR : RdP w A evs) :
    Calls Tryd.prog 27 #[.int .i64 2, .slice A evs.length cap] w fun e w' =>
      e = .returned (.tuple #[.agg #[.int .i64 (runV 1 2 0 evs).1.1, .int .i64 (runV 1 2 0 evs).1.2.1, .int .i64 (runV 1 2 0 evs).1.2.2], .int .i64 (runV 1 2 0 evs).2.1, .int .i64 (runV 1 2 0 evs).2.2]) ∧ Below w.heap.size w w' := by
  go_enter Tryd.func27, Tryd.ntmps27
  go_wp2_with fail
  refine (begin_any _ _).mono ?_
  rintro e w1 ⟨rfl, hb1⟩
  rw [show bgE 2 = 0 from rfl, show bgS 2 = 1 from rfl, show bgR 2 = 2 from rfl]
  have q0 : w1.cell? ⟨w.heap.size, 0, none⟩ = some (.int .i64 0) := kc hb1 (by simp [go_sem])
  have q1 : w1.cell? ⟨w.heap.size, 1, none⟩ = some (.int .i64 0) := kc hb1 (by simp [go_sem])
  have q2 : w1.cell? ⟨w.heap.size, 2, none⟩ = some (.int .i64 0) := kc hb1 (by simp [go_sem])
  have f0 : w1.frozen? ⟨w.heap.size, 0, none⟩ = false := kf hb1 (v := .int .i64 0) (by simp [go_sem]) (by simp [go_sem])
  have f1 : w1.frozen? ⟨w.heap.size, 1, none⟩ = false := kf hb1 (v := .int .i64 0) (by simp [go_sem]) (by simp [go_sem])
  have f2 : w1.frozen? ⟨w.heap.size, 2, none⟩ = false := kf hb1 (v := .int .i64 0) (by simp [go_sem]) (by simp [go_sem])
  have hq := hid (show B3 w1 w.heap.size 0 0 0 from ⟨q0, q1, q2, f0, f1, f2⟩)
  have hbb : Below w.heap.size w w1 := ((Below.refl _ _).alloc (Nat.le_refl _) _).trans (hb1.mono (by simp))
  have hR1 := hR.below hbb
  clear q0 q1 q2 f0 f1 f2 hb1
  go_wp2_with fail
  refine (run_ok 1 2 0 A cap evs (by decide) hl _ (hR1.below ((Below.refl _ _).alloc (Nat.le_refl _) _))).mono ?_
  rintro e w2 ⟨rfl, hb2⟩
  have hq2 := (hq.out.alloc _).below hb2
  have HQ := hid hq2
  clear hq
  obtain ⟨q0, q1, q2, f0, f1, f2⟩ := hq2
  go_wp2_with fail
  refine bodyPost_ret (v := .tuple #[.agg #[.int .i64 (runV 1 2 0 evs).1.1, .int .i64 (runV 1 2 0 evs).1.2.1, .int .i64 (runV 1 2 0 evs).1.2.2], .int .i64 (runV 1 2 0 evs).2.1, .int .i64 (runV 1 2 0 evs).2.2]) ?_ rfl ⟨rfl, ?_⟩
  · obtain ⟨z0, z1, z2, _⟩ := HQ.out.set (x' := (runV 1 2 0 evs).1.1) (y' := (runV 1 2 0 evs).1.2.1) (z' := (runV 1 2 0 evs).1.2.2)
    simp [results, Tryd.results27, go_sem, z0, z1, z2]
  · have h2 := (hbb.alloc hbb.size _).trans (hb2.mono (by have := hbb.size; simp; omega))
    exact ((h2.setCell (Nat.le_refl _) _).setCell (Nat.le_refl _) _).setCell (Nat.le_refl _) _

theorem rdp_of {w : World} {B : Nat} (evs : List (Int × Int)) (h : ∀ i (h : i < evs.length), w.cell? ⟨B, i * 2, none⟩ = some (.int .i64 evs[i].1) ∧ w.cell? ⟨B, i * 2 + 1, none⟩ = some (.int .i64 evs[i].2)) : RdP w (some ⟨B, 0, none⟩) evs :=
  Or.inr ⟨B, 0, rfl, fun i hi => by simpa using h i hi⟩
theorem rdp2 (w : World) (a b c d : Int) (t : TypeId) : RdP (w.alloc (.cells #[.int .i64 a, .int .i64 b, .int .i64 c, .int .i64 d] t)) (some ⟨w.heap.size, 0, none⟩) [(a, b), (c, d)] :=
  rdp_of _ fun i hi => by
    match i, hi with
    | 0, _ => exact ⟨by simp, by simp⟩
    | 1, _ => exact ⟨by simp, by simp⟩
theorem rdp3 (w : World) (a b c d e f : Int) (t : TypeId) : RdP (w.alloc (.cells #[.int .i64 a, .int .i64 b, .int .i64 c, .int .i64 d, .int .i64 e, .int .i64 f] t)) (some ⟨w.heap.size, 0, none⟩) [(a, b), (c, d), (e, f)] :=
  rdp_of _ fun i hi => by
    match i, hi with
    | 0, _ => exact ⟨by simp, by simp⟩
    | 1, _ => exact ⟨by simp, by simp⟩
    | 2, _ => exact ⟨by simp, by simp⟩
theorem rdp_of3 {w : World} {B : Nat} {a b c d e f : Int} (h0 : w.cell? ⟨B, 0, none⟩ = some (.int .i64 a)) (h1 : w.cell? ⟨B, 1, none⟩ = some (.int .i64 b)) (h2 : w.cell? ⟨B, 2, none⟩ = some (.int .i64 c)) (h3 : w.cell? ⟨B, 3, none⟩ = some (.int .i64 d)) (h4 : w.cell? ⟨B, 4, none⟩ = some (.int .i64 e)) (h5 : w.cell? ⟨B, 5, none⟩ = some (.int .i64 f)) :
    RdP w (some ⟨B, 0, none⟩) [(a, b), (c, d), (e, f)] :=
  rdp_of _ fun i hi => by
    match i, hi with
    | 0, _ => exact ⟨h0, h1⟩
    | 1, _ => exact ⟨h2, h3⟩
    | 2, _ => exact ⟨h4, h5⟩
theorem kd {w : World} {a : Addr} {v : Value} (h : w.cell? a = some v) : w.drew.cell? a = some v := h
theorem run_two_a : runV 1 2 0 [(3, 0), (6, 0)] = ((4, 2, 0), 2, 0) := by decide +kernel
theorem run_two_b : runV 1 2 0 [(3, 0), (4, 3), (6, 0)] = ((5, 1, 0), 3, 0) := by decide +kernel

set_option maxHeartbeats 8000000 in
theorem awake_any (w : World) (hG : GC w) :
    Calls Tryd.prog 9 #[] w fun e w' => e = .returned (.bool true) ∧ Below w.heap.size w w' := by
  have HG := hid hG
  clear hG
  go_enter Tryd.func9, Tryd.ntmps9
  go_wp2_with (first | (go_at_call 16; refine (ev_any _ _).mono ?_; rintro e w' ⟨rfl, rfl⟩))
  refine (runl_two _ _ [(3, 0), (6, 0)] (by decide) _ ?hR).mono ?_
  case hR =>
    have := rdp2 ((w.alloc (.cells #[.int .i64 3, .int .i64 0] 37)).alloc (.cells #[.int .i64 6, .int .i64 0] 37)) 3 0 6 0 37
    simpa using this
  rintro e w1 ⟨rfl, hb1⟩
  rw [run_two_a]
  have hb2 : Below w.heap.size w w1 := (((((Below.refl _ _).alloc (Nat.le_refl _) _).alloc (by simp) _).alloc (by simp; omega) _)).trans (hb1.mono (by simp; omega))
  have hG1 := HG.out.below hb2
  clear hb1 HG
  go_wp2_with fail
  have hA := B3.new w1 4 2 0 23
  have hb3 := hb2.alloc hb2.size (.cells #[.int .i64 4, .int .i64 2, .int .i64 0] 23)
  have hG2 := hG1.below ((Below.refl w1.heap.size w1).alloc (Nat.le_refl _) (.cells #[.int .i64 4, .int .i64 2, .int .i64 0] 23))
  have hlt : w1.heap.size < (w1.alloc (.cells #[.int .i64 4, .int .i64 2, .int .i64 0] 23)).heap.size := by simp
  clear hG1
  generalize hW : w1.alloc (.cells #[.int .i64 4, .int .i64 2, .int .i64 0] 23) = W at *
  clear hW hb2
  generalize hN : w1.heap.size = N at *
  clear hN
  have HA := hid hA
  have HG := hid hG2
  obtain ⟨a0, a1, a2, _, _, _⟩ := hA
  obtain ⟨g0, g1⟩ := hG2
  have n0 := World.new_ne W _ g0
  simp only at n0
  go_cut [4, 5, 6] (fun s4 s5 s6 wx => ∃ M : Nat, s4 = .pointer (some ⟨M, 0, none⟩) ∧ s5 = .int .i64 3 ∧ s6 = .int .i64 0 ∧ B3 wx M 5 1 0 ∧ B3 wx N 4 2 0 ∧ Below w.heap.size w wx)
  case first =>
    go_region_held3 (fun w' => w'.cell? ⟨0, 0, none⟩ = some (.int .i64 4) ∧ w'.cell? ⟨0, 1, none⟩ = some (.int .i64 3))
      (first | ((try go_split_ands); (repeat' apply And.intro) <;> (repeat (first | assumption | with_reducible apply ka | with_reducible apply kd | (with_reducible refine so ?_ (by simp <;> omega)) | (with_reducible apply kc; assumption))); done) | go_keep)
      (first | (go_at_call 16; refine (ev_any _ _).mono ?_; rintro e w' ⟨rfl, rfl⟩) | (go_at_call 27; refine (runl_two _ _ [(3, 0), (4, 3), (6, 0)] (by decide) _ (rdp_of3 (by simp [go_sem]) (by simp [go_sem]) (by simp [go_sem]) (by simp [go_sem]) (by simp [go_sem]) (by simp [go_sem]))).mono ?_; rintro e w9 ⟨rfl, hb9⟩; rw [run_two_b]; obtain ⟨hc1, hf1⟩ := bcell hb9))
    all_goals
      go_wp2_with fail
      go_meet
      have hWw : Below W.heap.size W w9 := by
        refine Below.trans ?_ (hb9.mono (by simp <;> omega))
        repeat (first | exact Below.refl _ _ | refine Below.alloc ?_ (by simp <;> omega) _ | refine Below.drew ?_)
      have hA1 := HA.out.below hWw
      have hb4 := hb3.trans (hWw.mono hb3.size)
      have hs4 := hb4.size
      have hs3 := hb3.size
      first
        | exact ⟨w9.heap.size, rfl, rfl, rfl, B3.new _ _ _ _ _, hA1.alloc _, hb4.alloc hs4 _⟩
        | (refine ⟨_, rfl, rfl, rfl, B3.set (x := 0) (y := 0) (z := 0) ⟨kc hb9 ?_, kc hb9 ?_, kc hb9 ?_, kf hb9 (v := .int .i64 0) ?_ ?_, kf hb9 (v := .int .i64 0) ?_ ?_, kf hb9 (v := .int .i64 0) ?_ ?_⟩, hA1.other ?_, Below.setCell (Below.setCell (Below.setCell hb4 ?_ _) ?_ _) ?_ _⟩ <;> first | (simp [go_sem]; done) | (simp; omega) | omega)
  case rest =>
    obtain ⟨M, rfl, rfl, rfl, hM, hA1, hb4⟩ := hcut
    obtain ⟨m0, m1, m2, _, _, _⟩ := hM
    clear a0 a1 a2 g0 g1
    obtain ⟨a0, a1, a2, _, _, _⟩ := hA1
    go_wp2_with fail
    go_ret
    exact ⟨rfl, hb4⟩
end Go.Proofs.YtaklhokabnjjcaaDoor
