import Derived.Test.YtaklhokabnjjcaaDoorF
namespace Go.Proofs.YtaklhokabnjjcaaDoor
open Go.RowKit
set_option linter.unusedVariables false
set_option linter.unusedSimpArgs false

/-- a block of three numbers, not frozen -/
def B3 (w : World) (N : Nat) (x y z : Int) : Prop := w.cell? ⟨N, 0, none⟩ = some (.int .i64 x) ∧ w.cell? ⟨N, 1, none⟩ = some (.int .i64 y) ∧ w.cell? ⟨N, 2, none⟩ = some (.int .i64 z) ∧
  w.frozen? ⟨N, 0, none⟩ = false ∧ w.frozen? ⟨N, 1, none⟩ = false ∧ w.frozen? ⟨N, 2, none⟩ = false
theorem B3.below {w w1 : World} {N : Nat} {x y z : Int} (h : B3 w N x y z) (hb : Below w.heap.size w w1) : B3 w1 N x y z :=
  ⟨kc hb h.1, kc hb h.2.1, kc hb h.2.2.1, kf hb h.1 h.2.2.2.1, kf hb h.2.1 h.2.2.2.2.1, kf hb h.2.2.1 h.2.2.2.2.2⟩
theorem B3.alloc {w : World} {N : Nat} {x y z : Int} (h : B3 w N x y z) (o : Obj) : B3 (w.alloc o) N x y z := h.below ((Below.refl _ _).alloc (Nat.le_refl _) o)
theorem B3.set {w : World} {N : Nat} {x y z x' y' z' : Int} (h : B3 w N x y z) : B3 (((w.setCell ⟨N, 0, none⟩ (.int .i64 x')).setCell ⟨N, 1, none⟩ (.int .i64 y')).setCell ⟨N, 2, none⟩ (.int .i64 z')) N x' y' z' :=
  ⟨so (so (so1 h.1) (by simp)) (by simp), so (so1 (so h.2.1 (by simp))) (by simp), so1 (so (so h.2.2.1 (by simp)) (by simp)), by simp [h.2.2.2.1], by simp [h.2.2.2.2.1], by simp [h.2.2.2.2.2]⟩
theorem B3.other {w : World} {N M : Nat} {x y z : Int} {a b c : Value} (h : B3 w N x y z) (hn : N ≠ M) : B3 (((w.setCell ⟨M, 0, none⟩ a).setCell ⟨M, 1, none⟩ b).setCell ⟨M, 2, none⟩ c) N x y z :=
  ⟨so (so (so h.1 (by simp [hn])) (by simp [hn])) (by simp [hn]), so (so (so h.2.1 (by simp [hn])) (by simp [hn])) (by simp [hn]), so (so (so h.2.2.1 (by simp [hn])) (by simp [hn])) (by simp [hn]), by simp [h.2.2.2.1], by simp [h.2.2.2.2.1], by simp [h.2.2.2.2.2]⟩
theorem B3.new (w : World) (x y z : Int) (t : TypeId) : B3 (w.alloc (.cells #[.int .i64 x, .int .i64 y, .int .i64 z] t)) w.heap.size x y z :=
  ⟨by simp, by simp, by simp, by simp, by simp, by simp⟩
theorem B3.lt {w : World} {N : Nat} {x y z : Int} (h : B3 w N x y z) : N < w.heap.size := World.block_lt_of_cell? w _ h.1

/-- a slice of pairs of numbers, readable -/
def RdP (w : World) (A : Option Addr) (evs : List (Int × Int)) : Prop :=
  evs = [] ∨ ∃ b off, A = some ⟨b, off, none⟩ ∧ ∀ i (h : i < evs.length), w.cell? ⟨b, off + i * 2, none⟩ = some (.int .i64 evs[i].1) ∧ w.cell? ⟨b, off + i * 2 + 1, none⟩ = some (.int .i64 evs[i].2)
theorem RdP.below {w w1 : World} {A : Option Addr} {evs : List (Int × Int)} (h : RdP w A evs) (hb : Below w.heap.size w w1) : RdP w1 A evs := by
  rcases h with h | ⟨b, off, e, h⟩
  · exact Or.inl h
  · exact Or.inr ⟨b, off, e, fun i hi => ⟨kc hb (h i hi).1, kc hb (h i hi).2⟩⟩
theorem RdP.at_ {w : World} {A : Option Addr} {evs : List (Int × Int)} (h : RdP w A evs) {i : Nat} (hi : i < evs.length) :
    ∃ b off, A = some ⟨b, off, none⟩ ∧ w.cell? ⟨b, off + i * 2, none⟩ = some (.int .i64 evs[i].1) ∧ w.cell? ⟨b, off + i * 2 + 1, none⟩ = some (.int .i64 evs[i].2) := by
  rcases h with h | ⟨b, off, e, h⟩
  · rw [h] at hi; exact absurd hi (by simp)
  · exact ⟨b, off, e, h i hi⟩

def runF : Int → Int → Int → List (Int × Int) → Int → (Int × Int × Int) × Int × Int
  | s, r, c, [], i => ((s, r, c), i, 0)
  | s, r, c, e :: es, i => if nE s r c e.1 e.2 = 0 then runF (nS s r c e.1 e.2) (nR s r c e.1 e.2) (nC s r c e.1 e.2) es (i + 1) else ((s, r, c), i, nE s r c e.1 e.2)
def runV (s r c : Int) (evs : List (Int × Int)) : (Int × Int × Int) × Int × Int := if chk s r c = 0 then runF s r c evs 0 else ((0, 0, 0), 0, chk s r c)

theorem runF_drop {s r c : Int} {evs : List (Int × Int)} {k : Nat} (hk : k < evs.length) (i : Int) :
    runF s r c (evs.drop k) i = if nE s r c evs[k].1 evs[k].2 = 0 then runF (nS s r c evs[k].1 evs[k].2) (nR s r c evs[k].1 evs[k].2) (nC s r c evs[k].1 evs[k].2) (evs.drop (k + 1)) (i + 1) else ((s, r, c), i, nE s r c evs[k].1 evs[k].2) := by
  rw [List.drop_eq_getElem_cons hk]; rfl

set_option maxHeartbeats 2000000 in
theorem run_bad (s r c : Int) (A : Option Addr) (cap : Nat) (evs : List (Int × Int)) (h : ¬ chk s r c = 0) (w : World) :
    Calls Tryd.prog 10 #[.agg #[.int .i64 s, .int .i64 r, .int .i64 c], .slice A evs.length cap] w fun e w' =>
      e = .returned (.tuple #[.agg #[.int .i64 (runV s r c evs).1.1, .int .i64 (runV s r c evs).1.2.1, .int .i64 (runV s r c evs).1.2.2], .int .i64 (runV s r c evs).2.1, .int .i64 (runV s r c evs).2.2]) ∧ Below w.heap.size w w' := by
  rw [show runV s r c evs = ((0, 0, 0), 0, chk s r c) from by simp [runV, h]]
  have b2 : (chk s r c != 0) = true := by simp [h]
  clear h
  go_enter Tryd.func10, Tryd.ntmps10
  go_wp2_with fail
  refine (check_any _ _ _ _).mono ?_
  rintro e w' ⟨rfl, rfl⟩
  go_wp2_with fail
  refine bodyPost_ret (v := .tuple #[.agg #[.int .i64 0, .int .i64 0, .int .i64 0], .int .i64 0, .int .i64 (chk s r c)]) (by simp [results, Tryd.results10, go_sem]) rfl ⟨rfl, ?_⟩
  repeat (first | exact Below.refl _ _ | refine Below.alloc ?_ (by simp <;> omega) _ | refine Below.drew ?_ | refine Below.setCell ?_ (by simp <;> omega) _)

set_option maxHeartbeats 2000000 in
theorem run_ok (s r c : Int) (A : Option Addr) (cap : Nat) (evs : List (Int × Int)) (h : chk s r c = 0) (hl : evs.length ≤ 9223372036854775807) (w : World) (hR : RdP w A evs) :
    Calls Tryd.prog 10 #[.agg #[.int .i64 s, .int .i64 r, .int .i64 c], .slice A evs.length cap] w fun e w' =>
      e = .returned (.tuple #[.agg #[.int .i64 (runV s r c evs).1.1, .int .i64 (runV s r c evs).1.2.1, .int .i64 (runV s r c evs).1.2.2], .int .i64 (runV s r c evs).2.1, .int .i64 (runV s r c evs).2.2]) ∧ Below w.heap.size w w' := by
  have HV : Hid (runV s r c evs = runF s r c evs 0) := by unfold runV; rw [if_pos h]; exact hid rfl
  have H := hid h
  clear h
  go_enter Tryd.func10, Tryd.ntmps10
  go_wp2_with fail
  refine (check_any _ _ _ _).mono ?_
  rintro e w' ⟨rfl, rfl⟩
  rw [H.out]
  go_wp2_with fail
  go_loopw [20] (fun i wr => ∃ (k : Nat) (s' r' c' : Int), k ≤ evs.length ∧ i = .int .i64 k ∧ runF s r c evs 0 = runF s' r' c' (evs.drop k) k ∧ B3 wr w.heap.size s' r' c' ∧ B3 wr (w.heap.size + 1) 0 0 0 ∧ Below w.heap.size w wr) (fun i _ => evs.length - (intOf i).toNat)
  case atStart =>
    refine ⟨0, s, r, c, by omega, rfl, rfl, ((B3.new _ _ _ _ _).alloc _).alloc _, ?_, ?_⟩
    · have := (B3.new (w.alloc (.cells #[.int .i64 s, .int .i64 r, .int .i64 c] 23)) 0 0 0 23).alloc (.cells #[.int .i64 s, .int .i64 r, .int .i64 c] 23)
      simpa using this
    · repeat (first | exact Below.refl _ _ | refine Below.alloc ?_ (by simp <;> omega) _)
  case round =>
    obtain ⟨k, s', r', c', hk, rfl, hF, hB, hQ, hb⟩ := hrel
    have HF := hid hF
    clear hF
    have HB := hid hB
    have HQ := hid hQ
    obtain ⟨c0, c1, c2, f0, f1, f2⟩ := hB
    by_cases hlt : k < evs.length
    · obtain ⟨b, off, rfl, x0, x1⟩ := (hR.below hb).at_ hlt
      have a0 := ka c0
      have a1 := ka c1
      have a2 := ka c2
      have hst := runF_drop (s := s') (r := r') (c := c') hlt (k : Int)
      have HST := hid hst
      clear hst
      go_wp2_with fail
      refine (next_any _ _ _ _ _ _).mono ?_
      rintro e w1 ⟨rfl, hb1⟩
      have B1 := (HB.out.alloc _).below hb1
      have Q1 := (HQ.out.alloc _).below hb1
      have hbb := (hb.alloc hb.size _).trans (hb1.mono (by have := hb.size; simp <;> omega))
      have HB1 := hid B1
      have HQ1 := hid Q1
      clear c0 c1 c2 f0 f1 f2 a0 a1 a2 x0 x1 hb1
      obtain ⟨c0, c1, c2, f0, f1, f2⟩ := B1
      obtain ⟨q0, q1, q2, g0, g1, g2⟩ := Q1
      by_cases hE : nE s' r' c' evs[k].1 evs[k].2 = 0
      · have e1 : (nE s' r' c' evs[k].1 evs[k].2 != 0) = false := by simp [hE]
        have HE := hid hE
        clear hE
        have a0 := ka c0
        have a1 := ka c1
        have a2 := ka c2
        have b0 := fa c0 f0
        have b1 := fa c1 f1
        have b2 := fa c2 f2
        go_wp2_with fail
        refine ⟨⟨k + 1, nS s' r' c' evs[k].1 evs[k].2, nR s' r' c' evs[k].1 evs[k].2, nC s' r' c' evs[k].1 evs[k].2, by omega, by go_num, ?_, (HB1.out.alloc _).set, (HQ1.out.alloc _).other (by omega), ?_⟩, by simp [intOf]; omega⟩
        · rw [HF.out, HST.out, if_pos HE.out]
          simp
        · exact (((hbb.alloc hbb.size _).setCell (Nat.le_refl _) _).setCell (Nat.le_refl _) _).setCell (Nat.le_refl _) _
      · have e1 : (nE s' r' c' evs[k].1 evs[k].2 != 0) = true := by simp [hE]
        have HE := hid hE
        clear hE
        have a0 := ka c0
        have a1 := ka c1
        have a2 := ka c2
        have b0 := fa q0 g0
        have b1 := fa q1 g1
        have b2 := fa q2 g2
        have d0 := ka q0
        have d1 := ka q1
        have d2 := ka q2
        go_wp2_with fail
        refine bodyPost_ret (v := .tuple #[.agg #[.int .i64 s', .int .i64 r', .int .i64 c'], .int .i64 k, .int .i64 (nE s' r' c' evs[k].1 evs[k].2)]) ?_ rfl ⟨?_, ?_⟩
        · obtain ⟨z0, z1, z2, _⟩ := (HQ1.out.alloc (.cells #[.int .i64 (nS s' r' c' evs[k].1 evs[k].2), .int .i64 (nR s' r' c' evs[k].1 evs[k].2), .int .i64 (nC s' r' c' evs[k].1 evs[k].2)] 23)).set (x' := s') (y' := r') (z' := c')
          simp [results, Tryd.results10, go_sem, z0, z1, z2]
        · rw [HV.out, HF.out, HST.out, if_neg HE.out]
        · exact (((hbb.alloc hbb.size _).setCell (by simp) _).setCell (by simp) _).setCell (by simp) _
    · obtain rfl : k = evs.length := by omega
      obtain ⟨q0, q1, q2, g0, g1, g2⟩ := HQ.out
      go_wp2_with fail
      refine bodyPost_ret (v := .tuple #[.agg #[.int .i64 s', .int .i64 r', .int .i64 c'], .int .i64 evs.length, .int .i64 0]) ?_ rfl ⟨?_, ?_⟩
      · obtain ⟨z0, z1, z2, _⟩ := HQ.out.set (x' := s') (y' := r') (z' := c')
        simp [results, Tryd.results10, go_sem, z0, z1, z2]
      · rw [HV.out, HF.out, List.drop_length]; rfl
      · exact ((hb.setCell (by simp) _).setCell (by simp) _).setCell (by simp) _
end Go.Proofs.YtaklhokabnjjcaaDoor
