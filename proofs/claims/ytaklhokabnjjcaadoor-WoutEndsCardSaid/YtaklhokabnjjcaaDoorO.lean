import Derived.Test.YtaklhokabnjjcaaDoorV
import Derived.Test.YtaklhokabnjjcaaDoorJ
import Derived.Deep.DeepCutAuto
namespace Go.Proofs.YtaklhokabnjjcaaDoor
open Go.RowKit
set_option linter.unusedVariables false
set_option linter.unusedSimpArgs false

theorem info3 : (Tryd.prog.info? 3).map (fun i => (i.zero, i.size, i.bytes)) = some (some (.int .i64 0), 1, 8) := by kernel_rfl

def evP (k : Int) : Int := if k = 4 then 1 else 0
theorem event_any (k : Int) (w : World) :
    Calls Tryd.prog 35 #[.int .i64 k] w fun e w' => e = .returned (.agg #[.int .i64 k, .int .i64 (evP k)]) ∧ Below w.heap.size w w' := by
  by_cases h : k = 4
  · subst h
    go_enter Tryd.func35, Tryd.ntmps35
    go_wp2
    refine bodyPost_ret (v := .agg #[.int .i64 4, .int .i64 1]) (by simp [results, Tryd.results35, go_sem]) rfl ⟨rfl, ?_⟩
    repeat (first | exact Below.refl _ _ | refine Below.alloc ?_ (by simp <;> omega) _ | refine Below.setCell ?_ (by simp <;> omega) _)
  · have e1 : (k == 4) = false := by simp [h]
    rw [show evP k = 0 from if_neg h]
    clear h
    go_enter Tryd.func35, Tryd.ntmps35
    go_wp2
    refine bodyPost_ret (v := .agg #[.int .i64 k, .int .i64 0]) (by simp [results, Tryd.results35, go_sem]) rfl ⟨rfl, ?_⟩
    repeat (first | exact Below.refl _ _ | refine Below.alloc ?_ (by simp <;> omega) _ | refine Below.setCell ?_ (by simp <;> omega) _)
theorem wrong_ev {s r k : Int} (k0 : 1 ≤ k) (k1 : k ≤ 6) : wrongE s r k (evP k) = posE s r k := by
  unfold wrongE evP
  by_cases h : k = 4
  · rw [if_neg (by omega), if_pos h, if_neg (by omega), if_neg (by omega)]
  · rw [if_neg (by omega), if_neg h, if_neg (by omega), if_neg (by omega)]

def alTo (s r : Int) : Nat → List Int
  | 0 => []
  | k + 1 => if posE s r ((k : Int) + 1) = 0 then alTo s r k ++ [(k : Int) + 1] else alTo s r k
theorem alTo_len (s r : Int) (k : Nat) : (alTo s r k).length ≤ k := by
  induction k with
  | zero => simp [alTo]
  | succ k ih => unfold alTo; split <;> first | (simp; omega) | omega
def alF (s r c : Int) : List Int := if chk s r c = 0 then alTo s r 6 else []

theorem OwnI.block {w : World} {base : Nat} {v : Value} {xs : List Int} (h : OwnI w base v xs) : ∀ k, v.ownBlock = some k → base ≤ k := by
  intro k hk
  rcases h.2 with ⟨rfl, _⟩ | ⟨g, cap, cur, rfl, hb, _⟩
  · cases hk
  · cases hk; exact hb
theorem B3.grown {w w' : World} {N : Nat} {x y z : Int} {row : Option Nat} (h : B3 w N x y z) (hg : w.grownBy w' row) (hr : ∀ k, row = some k → N + 1 ≤ k) : B3 w' N x y z := by
  have hl := h.lt
  have hne : some N ≠ row := by
    intro e
    have := hr N e.symm
    omega
  obtain ⟨c0, c1, c2, f0, f1, f2⟩ := h
  exact ⟨(hg.cell_far ⟨N, 0, none⟩ hl hne).trans c0, (hg.cell_far ⟨N, 1, none⟩ hl hne).trans c1, (hg.cell_far ⟨N, 2, none⟩ hl hne).trans c2, (hg.frozen_far ⟨N, 0, none⟩ hl hne).trans f0, (hg.frozen_far ⟨N, 1, none⟩ hl hne).trans f1, (hg.frozen_far ⟨N, 2, none⟩ hl hne).trans f2⟩

set_option maxHeartbeats 2000000 in
theorem allowed_any (s r c : Int) (w : World) :
    Calls Tryd.prog 18 #[.agg #[.int .i64 s, .int .i64 r, .int .i64 c]] w fun e w' => (∃ A ca, e = .returned (.tuple #[.slice A (alF s r c).length ca, .int .i64 (chk s r c)]) ∧ RdI w' A (alF s r c)) ∧ Below w.heap.size w w' := by
  by_cases h : chk s r c = 0
  case neg =>
    rw [show alF s r c = [] from by simp [alF, h]]
    have e1 : (chk s r c != 0) = true := by simp [h]
    clear h
    go_enter Tryd.func18, Tryd.ntmps18
    go_wp2_with fail
    refine (check_any _ _ _ _).mono ?_
    rintro e w' ⟨rfl, rfl⟩
    go_wp2_with fail
    go_ret2
    refine ⟨⟨none, 0, rfl, Or.inl rfl⟩, ?_⟩
    repeat (first | exact Below.refl _ _ | refine Below.alloc ?_ (by simp <;> omega) _)
  obtain ⟨s0, s1, r0, r1⟩ := chk_bounds h
  rw [show alF s r c = alTo s r 6 from by simp [alF, h]]
  rw [h]
  have H := hid h
  clear h
  obtain ⟨i0, hi, hz0, hz1, hz2⟩ := info_parts info3
  have HI := hid (And.intro hi (And.intro hz0 (And.intro hz1 hz2)))
  clear hi hz0 hz1 hz2
  go_enter Tryd.func18, Tryd.ntmps18
  go_wp2_with fail
  refine (check_any _ _ _ _).mono ?_
  rintro e w' ⟨rfl, rfl⟩
  rw [H.out]
  go_wp2_with fail
  go_loopw [5, 6] (fun v i wr => ∃ k : Nat, k ≤ 6 ∧ i = .int .i64 ((k : Int) + 1) ∧ OwnI wr (w.heap.size + 1) v (alTo s r k) ∧ B3 wr w.heap.size s r c ∧ Below w.heap.size w wr) (fun _ i _ => 7 - (intOf i).toNat)
  case atStart =>
    refine ⟨0, by omega, rfl, OwnI.nil _ _, (B3.new _ _ _ _ _).alloc _, ?_⟩
    repeat (first | exact Below.refl _ _ | refine Below.alloc ?_ (by simp <;> omega) _)
  case round =>
    obtain ⟨k, hk, rfl, hO, hB, hb⟩ := hrel
    have HO := hid hO
    have HB := hid hB
    clear hO
    obtain ⟨c0, c1, c2, f0, f1, f2⟩ := hB
    by_cases hlt : k < 6
    · have hlen := alTo_len s r k
      have hk0 : (1 : Int) ≤ (k : Int) + 1 := by omega
      have hk1 : (k : Int) + 1 ≤ 6 := by omega
      have hw := wrong_ev (s := s) (r := r) hk0 hk1
      cases hp : decide (posE s r ((k : Int) + 1) = 0)
      case true =>
        have hp' : posE s r ((k : Int) + 1) = 0 := by simpa using hp
        have e1 : (posE s r ((k : Int) + 1) == 0) = true := by simp [hp']
        have e2 : (wrongE s r ((k : Int) + 1) (evP ((k : Int) + 1)) == 0) = true := by rw [hw]; exact e1
        have HN := hid (show alTo s r (k + 1) = alTo s r k ++ [(k : Int) + 1] by rw [alTo, if_pos hp'])
        clear hp hp' hw e1
        go_wp2_with fail
        go_cut [20] (fun s20 wx => s20 = .bool true ∧ OwnI wx (w.heap.size + 1) u5 (alTo s r k) ∧ B3 wx w.heap.size s r c ∧ Below w.heap.size w wx)
        case first =>
          go_region_held3 (fun w' => w'.cell? ⟨w.heap.size, 0, none⟩ = some (.int .i64 s) ∧ w'.cell? ⟨w.heap.size, 1, none⟩ = some (.int .i64 r) ∧ w'.cell? ⟨w.heap.size, 2, none⟩ = some (.int .i64 c))
            (first | go_keep | (go_split_ands; (repeat' apply And.intro) <;> first | assumption | (apply kc; assumption; assumption)))
            (first | (go_at_call 35; refine (event_any _ _).mono ?_; rintro e w1 ⟨rfl, hb1⟩; obtain ⟨hc1, hf1⟩ := bcell hb1) | (go_at_call 31; refine (wrong_any _ _ _ _ _ s0 s1 r0 r1 _).mono ?_; rintro e w2 ⟨rfl, hb2⟩; obtain ⟨hc2, hf2⟩ := bcell hb2))
          all_goals (go_wp2_with fail; go_meet)
          all_goals exact ⟨rfl, (OwnI.below (w := wr.drew) HO.out hb1).below hb2, ((HB.out.drew).below hb1).below hb2, (hb.drew.trans (hb1.mono hb.size)).trans (hb2.mono (Nat.le_trans hb.size hb1.size))⟩
        case rest =>
          obtain ⟨rfl, hO2, hB2, hb2⟩ := hcut
          have HO2 := hid hO2
          have HB2 := hid hB2
          clear hO2 HO HB hb c0 c1 c2 f0 f1 f2
          obtain ⟨c0, c1, c2, f0, f1, f2⟩ := hB2
          go_wp2_with (at_builtin; refine wpList_append_own _ rfl _ _ 32 rfl (w.heap.size + 1) 3 i0 (.int .i64 0) 1 8 Tryd.underlying32 HI.out.1 HI.out.2.1 HI.out.2.2.1 HI.out.2.2.2 rfl (by decide) _ _ _ rfl (HO2.out.alloc _) ⟨wc.heap.size, 0, none⟩ 1 1 [.int .i64 ((k : Int) + 1)] rfl rfl (cell_one_new _ _ _) (by simp [Value.oneCell']) ?c3 ?c4 ?c5 ?_)
          case c3 => unfold maxLen; omega
          case c4 => omega
          case c5 => have := HB2.out.lt; simp; omega
          intro v' w3 hown hgrow _
          have hkb : ∀ k, u5.ownBlock = some k → w.heap.size + 1 ≤ k := HO2.out.block
          have hB3 := (HB2.out.alloc _).grown hgrow hkb
          have hb3 := (hb2.alloc hb2.size _).grown hgrow (by have := hb2.size; simp; omega) (fun k hk => by have := hkb k hk; omega)
          go_wp2_with fail
          refine ⟨⟨k + 1, by omega, by go_num, ?_, hB3, hb3⟩, by simp [intOf]; omega⟩
          rw [HN.out]
          exact OwnI.of hown
      case false =>
        have hp' : ¬ posE s r ((k : Int) + 1) = 0 := by simpa using hp
        have e1 : (posE s r ((k : Int) + 1) == 0) = false := by simp [hp']
        have e2 : (wrongE s r ((k : Int) + 1) (evP ((k : Int) + 1)) == 0) = false := by rw [hw]; exact e1
        have HN := hid (show alTo s r (k + 1) = alTo s r k by rw [alTo, if_neg hp'])
        clear hp hp' hw e1
        go_wp2_with fail
        go_cut [20] (fun s20 wx => s20 = .bool false ∧ OwnI wx (w.heap.size + 1) u5 (alTo s r k) ∧ B3 wx w.heap.size s r c ∧ Below w.heap.size w wx)
        case first =>
          go_region_held3 (fun w' => w'.cell? ⟨w.heap.size, 0, none⟩ = some (.int .i64 s) ∧ w'.cell? ⟨w.heap.size, 1, none⟩ = some (.int .i64 r) ∧ w'.cell? ⟨w.heap.size, 2, none⟩ = some (.int .i64 c))
            (first | go_keep | (go_split_ands; (repeat' apply And.intro) <;> first | assumption | (apply kc; assumption; assumption)))
            (first | (go_at_call 35; refine (event_any _ _).mono ?_; rintro e w1 ⟨rfl, hb1⟩; obtain ⟨hc1, hf1⟩ := bcell hb1) | (go_at_call 31; refine (wrong_any _ _ _ _ _ s0 s1 r0 r1 _).mono ?_; rintro e w2 ⟨rfl, hb2⟩; obtain ⟨hc2, hf2⟩ := bcell hb2))
          all_goals (go_wp2_with fail; go_meet)
          all_goals exact ⟨rfl, (OwnI.below (w := wr.drew) HO.out hb1).below hb2, ((HB.out.drew).below hb1).below hb2, (hb.drew.trans (hb1.mono hb.size)).trans (hb2.mono (Nat.le_trans hb.size hb1.size))⟩
        case rest =>
          obtain ⟨rfl, hO2, hB2, hb2⟩ := hcut
          have HO2 := hid hO2
          have HB2 := hid hB2
          clear hO2 HO HB hb c0 c1 c2 f0 f1 f2
          obtain ⟨c0, c1, c2, f0, f1, f2⟩ := hB2
          go_wp2_with fail
          refine ⟨⟨k + 1, by omega, by go_num, ?_, HB2.out, hb2⟩, by simp [intOf]; omega⟩
          rw [HN.out]
          exact HO2.out

    · obtain rfl : k = 6 := by omega
      obtain ⟨A, ca, rfl, hRd⟩ := HO.out.reads
      go_wp2_with fail
      go_ret2
      exact ⟨⟨A, ca, rfl, hRd⟩, hb⟩

set_option maxHeartbeats 2000000 in
theorem rallowed_any (s r c : Int) (w : World) :
    Calls Tryd.prog 19 #[.agg #[.int .i64 s, .int .i64 r, .int .i64 c]] w fun e w' => (∃ A ca, e = .returned (.tuple #[.slice A (alF s r c).length ca, .int .i64 (chk s r c)]) ∧ RdI w' A (alF s r c)) ∧ Below w.heap.size w w' := by
  by_cases h : chk s r c = 0
  case neg =>
    rw [show alF s r c = [] from by simp [alF, h]]
    have e1 : (chk s r c != 0) = true := by simp [h]
    clear h
    go_enter Tryd.func19, Tryd.ntmps19
    go_wp2_with fail
    refine (rcheck_any _ _ _ _).mono ?_
    rintro e w' ⟨rfl, rfl⟩
    go_wp2_with fail
    go_ret2
    refine ⟨⟨none, 0, rfl, Or.inl rfl⟩, ?_⟩
    repeat (first | exact Below.refl _ _ | refine Below.alloc ?_ (by simp <;> omega) _)
  obtain ⟨s0, s1, r0, r1⟩ := chk_bounds h
  rw [show alF s r c = alTo s r 6 from by simp [alF, h]]
  rw [h]
  have H := hid h
  clear h
  obtain ⟨i0, hi, hz0, hz1, hz2⟩ := info_parts info3
  have HI := hid (And.intro hi (And.intro hz0 (And.intro hz1 hz2)))
  clear hi hz0 hz1 hz2
  go_enter Tryd.func19, Tryd.ntmps19
  go_wp2_with fail
  refine (rcheck_any _ _ _ _).mono ?_
  rintro e w' ⟨rfl, rfl⟩
  rw [H.out]
  go_wp2_with fail
  go_loopw [5, 6] (fun v i wr => ∃ k : Nat, k ≤ 6 ∧ i = .int .i64 ((k : Int) + 1) ∧ OwnI wr (w.heap.size + 1) v (alTo s r k) ∧ B3 wr w.heap.size s r c ∧ Below w.heap.size w wr) (fun _ i _ => 7 - (intOf i).toNat)
  case atStart =>
    refine ⟨0, by omega, rfl, OwnI.nil _ _, (B3.new _ _ _ _ _).alloc _, ?_⟩
    repeat (first | exact Below.refl _ _ | refine Below.alloc ?_ (by simp <;> omega) _)
  case round =>
    obtain ⟨k, hk, rfl, hO, hB, hb⟩ := hrel
    have HO := hid hO
    have HB := hid hB
    clear hO
    obtain ⟨c0, c1, c2, f0, f1, f2⟩ := hB
    by_cases hlt : k < 6
    · have hlen := alTo_len s r k
      have hk0 : (1 : Int) ≤ (k : Int) + 1 := by omega
      have hk1 : (k : Int) + 1 ≤ 6 := by omega
      cases hp : decide (posE s r ((k : Int) + 1) = 0)
      case true =>
        have hp' : posE s r ((k : Int) + 1) = 0 := by simpa using hp
        have e2 : (posE s r ((k : Int) + 1) == 0) = true := by simp [hp']
        have HN := hid (show alTo s r (k + 1) = alTo s r k ++ [(k : Int) + 1] by rw [alTo, if_pos hp'])
        clear hp hp'
        go_wp2_with fail
        refine (rpos_any _ _ _ _ s0 s1 r0 r1 hk0 hk1 _).mono ?_
        rintro e w2 ⟨rfl, hc⟩
        have HO2 := hid (HO.out.below hc)
        have HB2 := hid (HB.out.below hc)
        have hb2 := hb.trans (hc.mono hb.size)
        clear hc HO HB hb c0 c1 c2 f0 f1 f2
        obtain ⟨c0, c1, c2, f0, f1, f2⟩ := HB2.out
        go_wp2_with (at_builtin; refine wpList_append_own _ rfl _ _ 32 rfl (w.heap.size + 1) 3 i0 (.int .i64 0) 1 8 Tryd.underlying32 HI.out.1 HI.out.2.1 HI.out.2.2.1 HI.out.2.2.2 rfl (by decide) _ _ _ rfl (HO2.out.alloc _) ⟨w2.heap.size, 0, none⟩ 1 1 [.int .i64 ((k : Int) + 1)] rfl rfl (cell_one_new _ _ _) (by simp [Value.oneCell']) ?c3 ?c4 ?c5 ?_)
        case c3 => unfold maxLen; omega
        case c4 => omega
        case c5 => have := HB2.out.lt; simp; omega
        intro v' w3 hown hgrow _
        have hkb : ∀ k, u5.ownBlock = some k → w.heap.size + 1 ≤ k := HO2.out.block
        have hB3 := (HB2.out.alloc _).grown hgrow hkb
        have hb3 := (hb2.alloc hb2.size _).grown hgrow (by have := hb2.size; simp; omega) (fun k hk => by have := hkb k hk; omega)
        go_wp2_with fail
        refine ⟨⟨k + 1, by omega, by go_num, ?_, hB3, hb3⟩, by simp [intOf]; omega⟩
        rw [HN.out]
        exact OwnI.of hown
      case false =>
        have hp' : ¬ posE s r ((k : Int) + 1) = 0 := by simpa using hp
        have e2 : (posE s r ((k : Int) + 1) == 0) = false := by simp [hp']
        have HN := hid (show alTo s r (k + 1) = alTo s r k by rw [alTo, if_neg hp'])
        clear hp hp'
        go_wp2_with fail
        refine (rpos_any _ _ _ _ s0 s1 r0 r1 hk0 hk1 _).mono ?_
        rintro e w2 ⟨rfl, hc⟩
        have HO2 := hid (HO.out.below hc)
        have HB2 := hid (HB.out.below hc)
        have hb2 := hb.trans (hc.mono hb.size)
        clear hc HO HB hb c0 c1 c2 f0 f1 f2
        obtain ⟨c0, c1, c2, f0, f1, f2⟩ := HB2.out
        go_wp2_with fail
        refine ⟨⟨k + 1, by omega, by go_num, ?_, HB2.out, hb2⟩, by simp [intOf]; omega⟩
        rw [HN.out]
        exact HO2.out

    · obtain rfl : k = 6 := by omega
      obtain ⟨A, ca, rfl, hRd⟩ := HO.out.reads
      go_wp2_with fail
      go_ret2
      exact ⟨⟨A, ca, rfl, hRd⟩, hb⟩

end Go.Proofs.YtaklhokabnjjcaaDoor
