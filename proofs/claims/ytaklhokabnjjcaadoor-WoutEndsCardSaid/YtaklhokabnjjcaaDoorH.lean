import Derived.Test.YtaklhokabnjjcaaDoorG
import Derived.Deep.DeepCutAuto
namespace Go.Proofs.YtaklhokabnjjcaaDoor
open Go.RowKit
set_option linter.unusedVariables false
set_option linter.unusedSimpArgs false

theorem B3.drew {w : World} {N : Nat} {x y z : Int} (h : B3 w N x y z) : B3 w.drew N x y z := h

set_option maxHeartbeats 2000000 in
theorem rrun_bad (s r c : Int) (A : Option Addr) (cap : Nat) (evs : List (Int × Int)) (h : ¬ chk s r c = 0) (w : World) :
    Calls Tryd.prog 11 #[.agg #[.int .i64 s, .int .i64 r, .int .i64 c], .slice A evs.length cap] w fun e w' =>
      e = .returned (.tuple #[.agg #[.int .i64 (runV s r c evs).1.1, .int .i64 (runV s r c evs).1.2.1, .int .i64 (runV s r c evs).1.2.2], .int .i64 (runV s r c evs).2.1, .int .i64 (runV s r c evs).2.2]) ∧ Below w.heap.size w w' := by
  rw [show runV s r c evs = ((0, 0, 0), 0, chk s r c) from by simp [runV, h]]
  have b2 : (chk s r c != 0) = true := by simp [h]
  clear h
  go_enter Tryd.func11, Tryd.ntmps11
  go_wp2_with fail
  refine (rcheck_any _ _ _ _).mono ?_
  rintro e w' ⟨rfl, rfl⟩
  go_wp2_with fail
  refine bodyPost_ret (v := .tuple #[.agg #[.int .i64 0, .int .i64 0, .int .i64 0], .int .i64 0, .int .i64 (chk s r c)]) (by simp [results, Tryd.results11, go_sem]) rfl ⟨rfl, ?_⟩
  repeat (first | exact Below.refl _ _ | refine Below.alloc ?_ (by simp <;> omega) _ | refine Below.drew ?_ | refine Below.setCell ?_ (by simp <;> omega) _)

set_option maxHeartbeats 2000000 in
theorem rrun_ok (s r c : Int) (A : Option Addr) (cap : Nat) (evs : List (Int × Int)) (h : chk s r c = 0) (hl : evs.length ≤ 9223372036854775807) (w : World) (hR : RdP w A evs) :
    Calls Tryd.prog 11 #[.agg #[.int .i64 s, .int .i64 r, .int .i64 c], .slice A evs.length cap] w fun e w' =>
      e = .returned (.tuple #[.agg #[.int .i64 (runV s r c evs).1.1, .int .i64 (runV s r c evs).1.2.1, .int .i64 (runV s r c evs).1.2.2], .int .i64 (runV s r c evs).2.1, .int .i64 (runV s r c evs).2.2]) ∧ Below w.heap.size w w' := by
  have HV : Hid (runV s r c evs = runF s r c evs 0) := by unfold runV; rw [if_pos h]; exact hid rfl
  have H := hid h
  clear h
  go_enter Tryd.func11, Tryd.ntmps11
  go_wp2_with fail
  refine (rcheck_any _ _ _ _).mono ?_
  rintro e w' ⟨rfl, rfl⟩
  rw [H.out]
  go_wp2_with fail
  go_loopw [8] (fun i wr => ∃ (k : Nat) (s' r' c' : Int), k ≤ evs.length ∧ i = .int .i64 k ∧ runF s r c evs 0 = runF s' r' c' (evs.drop k) k ∧ B3 wr w.heap.size s' r' c' ∧ B3 wr (w.heap.size + 1) 0 0 0 ∧ Below w.heap.size w wr) (fun i _ => evs.length - (intOf i).toNat)
  case atStart =>
    refine ⟨0, s, r, c, by omega, rfl, rfl, ((B3.new _ _ _ _ _).alloc _).alloc _, ?_, ?_⟩
    · have := (B3.new (w.alloc (.cells #[.int .i64 s, .int .i64 r, .int .i64 c] 23)) 0 0 0 23).alloc (.cells #[.int .i64 s, .int .i64 r, .int .i64 c] 23)
      simpa using this
    · repeat (first | exact Below.refl _ _ | refine Below.alloc ?_ (by simp <;> omega) _)
  case round =>
    obtain ⟨k, s', r', c', hk, rfl, hF, hB, hQ, hb⟩ := hrel
    have HF := hid hF
    clear hF
    have HB := hid hB
    have HQ := hid hQ
    obtain ⟨c0, c1, c2, f0, f1, f2⟩ := hB
    by_cases hlt : k < evs.length
    · obtain ⟨b, off, rfl, x0, x1⟩ := (hR.below hb).at_ hlt
      have a0 := ka c0
      have a1 := ka c1
      have a2 := ka c2
      have hst := runF_drop (s := s') (r := r') (c := c') hlt (k : Int)
      have HST := hid hst
      clear hst
      have n0 := World.new_ne wr ⟨w.heap.size, 0, none⟩ c0
      have n1 := World.new_ne wr ⟨b, off + k * 2, none⟩ x0
      simp only at n0 n1
      have i0 : (0 : Int) ≤ (k : Int) := by omega
      have i1 : (k : Int) < (evs.length : Int) := by omega
      go_wp2_with fail
      go_cut [9, 10] (fun s9 s10 wx => ∃ M : Nat, s9 = .pointer (some ⟨M, 0, none⟩) ∧ s10 = .int .i64 (nE s' r' c' evs[k].1 evs[k].2) ∧ B3 wx M (nS s' r' c' evs[k].1 evs[k].2) (nR s' r' c' evs[k].1 evs[k].2) (nC s' r' c' evs[k].1 evs[k].2) ∧ B3 wx w.heap.size s' r' c' ∧ B3 wx (w.heap.size + 1) 0 0 0 ∧ w.heap.size + 1 < M ∧ Below w.heap.size w wx)
      case first =>
        go_region_held3 (fun w' => w'.cell? ⟨w.heap.size, 0, none⟩ = some (.int .i64 s') ∧ w'.cell? ⟨w.heap.size, 1, none⟩ = some (.int .i64 r') ∧ w'.cell? ⟨w.heap.size, 2, none⟩ = some (.int .i64 c') ∧ w'.cell? ⟨b, off + k * 2, none⟩ = some (.int .i64 evs[k].1) ∧ w'.cell? ⟨b, off + k * 2 + 1, none⟩ = some (.int .i64 evs[k].2))
          (first | go_keep | (go_split_ands; (repeat' apply And.intro) <;> first | assumption | (apply kc; assumption; assumption) | (apply ka; assumption) | (apply ka; apply kc; assumption; assumption)))
          (first | (go_at_call 17; refine (rnext_any _ _ _ _ _ _).mono ?_; rintro e w1 ⟨rfl, hb1⟩; obtain ⟨hc1, hf1⟩ := bcell hb1))
        all_goals (go_wp2_with fail; go_meet)
        · refine ⟨w1.heap.size, rfl, rfl, B3.new _ _ _ _ _, (B3.below (w := wr.drew) HB.out hb1).alloc _, (B3.below (w := wr.drew) HQ.out hb1).alloc _, ?_, ?_⟩
          · exact (B3.below (w := wr.drew) HQ.out hb1).lt
          · exact (hb.drew.trans (hb1.mono hb.size)).alloc (by have h1 := hb.size; have h2 := hb1.size; simp at h2; omega) _
        · have hq1 := HQ.out.lt
          refine ⟨wr.heap.size, rfl, rfl, (B3.below (B3.drew (B3.new wr 0 0 0 23)) hb1).set, (B3.below (B3.drew (HB.out.alloc _)) hb1).other (by omega), (B3.below (B3.drew (HQ.out.alloc _)) hb1).other (by omega), by omega, ?_⟩
          have hz := hb.size
          exact ((((hb.alloc hz _).drew.trans (hb1.mono (by simp; omega))).setCell hz _).setCell hz _).setCell hz _
      case rest =>
        obtain ⟨M, rfl, rfl, hM, B1, Q1, hlM, hbb⟩ := hcut
        have HM := hid hM
        have HB1 := hid B1
        have HQ1 := hid Q1
        clear c0 c1 c2 f0 f1 f2 a0 a1 a2 x0 x1 n0 n1
        obtain ⟨m0, m1, m2, _, _, _⟩ := hM
        obtain ⟨c0, c1, c2, f0, f1, f2⟩ := B1
        obtain ⟨q0, q1, q2, g0, g1, g2⟩ := Q1
        by_cases hE : nE s' r' c' evs[k].1 evs[k].2 = 0
        · have e1 : (nE s' r' c' evs[k].1 evs[k].2 != 0) = false := by simp [hE]
          have HE := hid hE
          clear hE
          go_wp2_with fail
          refine ⟨⟨k + 1, nS s' r' c' evs[k].1 evs[k].2, nR s' r' c' evs[k].1 evs[k].2, nC s' r' c' evs[k].1 evs[k].2, by omega, by go_num, ?_, HB1.out.set, HQ1.out.other (by omega), ?_⟩, by simp [intOf]; omega⟩
          · rw [HF.out, HST.out, if_pos HE.out]
            simp
          · exact ((hbb.setCell (Nat.le_refl _) _).setCell (Nat.le_refl _) _).setCell (Nat.le_refl _) _
        · have e1 : (nE s' r' c' evs[k].1 evs[k].2 != 0) = true := by simp [hE]
          have HE := hid hE
          clear hE
          go_wp2_with fail
          refine bodyPost_ret (v := .tuple #[.agg #[.int .i64 s', .int .i64 r', .int .i64 c'], .int .i64 k, .int .i64 (nE s' r' c' evs[k].1 evs[k].2)]) ?_ rfl ⟨?_, ?_⟩
          · obtain ⟨z0, z1, z2, _⟩ := HQ1.out.set (x' := s') (y' := r') (z' := c')
            simp [results, Tryd.results11, go_sem, z0, z1, z2]
          · rw [HV.out, HF.out, HST.out, if_neg HE.out]
          · exact ((hbb.setCell (by simp) _).setCell (by simp) _).setCell (by simp) _
    · obtain rfl : k = evs.length := by omega
      obtain ⟨q0, q1, q2, g0, g1, g2⟩ := HQ.out
      go_wp2_with fail
      refine bodyPost_ret (v := .tuple #[.agg #[.int .i64 s', .int .i64 r', .int .i64 c'], .int .i64 evs.length, .int .i64 0]) ?_ rfl ⟨?_, ?_⟩
      · obtain ⟨z0, z1, z2, _⟩ := HQ.out.set (x' := s') (y' := r') (z' := c')
        simp [results, Tryd.results11, go_sem, z0, z1, z2]
      · rw [HV.out, HF.out, List.drop_length]; rfl
      · exact ((hb.setCell (by simp) _).setCell (by simp) _).setCell (by simp) _
end Go.Proofs.YtaklhokabnjjcaaDoor
