/- Plain law of SlabUndo. -/
import Derived.Test.YtbhbddpebhccgaaQ1
import Derived.Test.YtbhbddpebhccgaaPAx6
namespace Go.Proofs.Ytbhbddpebhccgaa.PA
open Go.RowKit Go.Proofs.YtbhbddpebhccgaaW.PrintWords Go.Proofs.YtbhbddpebhccgaaW.PrintLast Go.Proofs.YtbhbddpebhccgaaW.PrintMore
set_option linter.unusedVariables false
set_option linter.unusedSimpArgs false

theorem md_f (x : Int) : ∃ r, headgatekit_Mod.f x 256 = some r ∧ 0 ≤ r ∧ r < 256 := by
  unfold headgatekit_Mod.f
  rw [if_neg (by omega), if_neg (by omega)]
  have h1 := Int.lt_tmod_of_pos x (show (0 : Int) < 256 by omega)
  have h2 := Int.tmod_lt_of_pos x (show (0 : Int) < 256 by omega)
  by_cases h : Int.tmod x 256 < 0
  · rw [if_pos h]
    exact ⟨_, rfl, by unfold wrap64; omega, by unfold wrap64; omega⟩
  · rw [if_neg h]
    exact ⟨_, rfl, by omega, by omega⟩
theorem made_f (a : Int) : ∃ f u, headgatelaw12_made.f a = some (f, u) ∧ 0 ≤ f ∧ f < 256 ∧ 0 ≤ u ∧ u ≤ 255 := by
  obtain ⟨r1, h1, a1, b1⟩ := md_f (wrap64 (Int.tdiv a 256))
  obtain ⟨r2, h2, a2, b2⟩ := md_f a
  refine ⟨r1, r2 % 256, ?_, a1, b1, by omega, by omega⟩
  unfold headgatelaw12_made.f
  rw [h1, Option.bind_some, h2, Option.bind_some]
theorem has_f (l : List Int) (x : Int) (hl : l.length ≤ 1000000) (k : Nat) (hk : l.length + 2 ≤ k) : headgatelaw12_has.f k l x = some (decide (x ∈ l)) := by
  have aux : ∀ (n j k : Nat), j + n = l.length → n + 1 ≤ k → headgatelaw12_has.l0 k l x (j : Int) = some (decide (x ∈ l.drop j)) := by
    intro n
    induction n with
    | zero =>
      intro j k hj hk
      obtain ⟨k, rfl⟩ : ∃ m, k = m + 1 := ⟨k - 1, by omega⟩
      simp only [headgatelaw12_has.l0]
      rw [if_neg (by omega), List.drop_eq_nil_of_le (by omega)]
      simp
    | succ n ih =>
      intro j k hj hk
      obtain ⟨k, rfl⟩ : ∃ m, k = m + 1 := ⟨k - 1, by omega⟩
      have hw : wrap64 ((j : Int) + 1) = ((j + 1 : Nat) : Int) := by unfold wrap64; omega
      have hr : rd l (j : Int) = l[j]'(by omega) := by simp [rd, show j < l.length by omega]
      simp only [headgatelaw12_has.l0]
      rw [if_pos (by omega), if_pos (by omega), hw, ih (j + 1) k (by omega) (by omega), hr]
      have hd : l.drop j = l[j]'(by omega) :: l.drop (j + 1) := List.drop_eq_getElem_cons (by omega)
      rw [hd]
      by_cases h : l[j]'(by omega) = x
      · rw [if_pos h, decide_eq_true (List.mem_cons.2 (Or.inl h.symm))]
      · rw [if_neg h]
        have h' : ¬ x = l[j]'(by omega) := fun e => h e.symm
        simp only [List.mem_cons, h', false_or]
  unfold headgatelaw12_has.f
  have := aux l.length 0 k (by omega) (by omega)
  simpa using this

def undoB (u : Int) : Bool :=
  (match pls 8 u with
    | [] => true
    | p :: _ => bitB u p && decide (0 ≤ fu u p) && decide (fu u p ≤ 255) && (fu u p != 255) && decide (tz (fu u p) ≤ p) && (tz (fu u p) != p || au (fu u p) == u)) &&
  (pls 8 u).all (fun p => decide (0 ≤ p) && decide (p < 8)) && ((pls 8 u).length != 8 || u == 255) && (u != 255 || (pls 8 u).length == 8) &&
  (u == 255 || (decide (0 ≤ au u) && decide (au u ≤ 255) && (fu (au u) (tz u) == u) && bitB (au u) (tz u) && !(pls 8 u).contains (tz u) && (pls 8 (au u)).contains (tz u) && ((pls 8 (au u)).length == (pls 8 u).length + 1) &&
    (pls 8 u).all (fun p => (pls 8 (au u)).contains p) && (pls 8 (au u)).all (fun p => decide (0 ≤ p) && decide (p < 8))))
theorem undoB8 : ∀ n : Fin 256, undoB (n.val : Int) = true := by decide +kernel
theorem undo_of (u : Int) (u0 : 0 ≤ u) (u1 : u ≤ 255) : undoB u = true := fin256 (P := fun u => undoB u = true) undoB8 u u0 u1

/-- what SlabUndo needs of a byte -/
structure Und (u : Int) : Prop where
  first : ∀ p l, pls 8 u = p :: l → bitB u p = true ∧ 0 ≤ fu u p ∧ fu u p ≤ 255 ∧ fu u p ≠ 255 ∧ tz (fu u p) ≤ p ∧ (tz (fu u p) = p → au (fu u p) = u)
  small : ∀ p ∈ pls 8 u, 0 ≤ p ∧ p < 8
  full : (pls 8 u).length = 8 → u = 255
  fulr : u = 255 → (pls 8 u).length = 8
  rest : u ≠ 255 → 0 ≤ au u ∧ au u ≤ 255 ∧ fu (au u) (tz u) = u ∧ bitB (au u) (tz u) = true ∧ tz u ∉ pls 8 u ∧ tz u ∈ pls 8 (au u) ∧ (pls 8 (au u)).length = (pls 8 u).length + 1 ∧ (∀ p ∈ pls 8 u, p ∈ pls 8 (au u)) ∧ ∀ p ∈ pls 8 (au u), 0 ≤ p ∧ p < 8
theorem und_of (u : Int) (u0 : 0 ≤ u) (u1 : u ≤ 255) : Und u := by
  have h := undo_of u u0 u1
  unfold undoB at h
  simp only [Bool.and_eq_true] at h
  obtain ⟨⟨⟨⟨h1, h2⟩, h3⟩, h4⟩, h5⟩ := h
  refine ⟨fun p l e => ?_, fun p hp => ?_, fun e => ?_, fun e => ?_, fun e => ?_⟩
  · rw [e] at h1
    simp only [Bool.and_eq_true, decide_eq_true_eq, bne_iff_ne, Bool.or_eq_true, beq_iff_eq] at h1
    obtain ⟨⟨⟨⟨⟨a, b⟩, c⟩, d⟩, e1⟩, f⟩ := h1
    exact ⟨a, b, c, d, e1, fun hh => f.resolve_left (fun hn => hn hh)⟩
  · have := List.all_eq_true.1 h2 p hp
    simp only [Bool.and_eq_true, decide_eq_true_eq] at this
    exact this
  · simp only [Bool.or_eq_true, bne_iff_ne, beq_iff_eq] at h3
    exact h3.resolve_left (fun hn => hn e)
  · simp only [Bool.or_eq_true, bne_iff_ne, beq_iff_eq] at h4
    exact h4.resolve_left (fun hn => hn e)
  · simp only [Bool.or_eq_true, beq_iff_eq] at h5
    have h5 := h5.resolve_left e
    simp only [Bool.and_eq_true, decide_eq_true_eq, beq_iff_eq, Bool.not_eq_true', List.contains_eq_mem, decide_eq_false_iff_not] at h5
    obtain ⟨⟨⟨⟨⟨⟨⟨⟨a, b⟩, c⟩, d⟩, e1⟩, f⟩, g⟩, i⟩, j⟩ := h5
    refine ⟨a, b, c, d, e1, f, g, fun p hp => ?_, fun p hp => ?_⟩
    · have := List.all_eq_true.1 i p hp
      simpa using this
    · have := List.all_eq_true.1 j p hp
      simpa using this
theorem objs_plain (f u : Int) (f0 : 0 ≤ f) (f1 : f < 256) (hs : ∀ p ∈ pls 8 u, 0 ≤ p ∧ p < 8) : objsV f u = (pls 8 u).map fun p => 8 * f + p := by
  unfold objsV
  rw [if_neg (by unfold badF; omega)]
  refine List.map_congr_left fun p hp => ?_
  have := hs p hp
  unfold wrap64
  omega
theorem mem_shift (f p : Int) (l : List Int) : 8 * f + p ∈ (l.map fun p => 8 * f + p) ↔ p ∈ l := by
  constructor
  · intro h
    obtain ⟨q, hq, e⟩ := List.mem_map.1 h
    obtain rfl : q = p := by omega
    exact hq
  · intro h
    exact List.mem_map.2 ⟨p, h, rfl⟩
theorem l0_f (l after : List Int) (hl : l.length ≤ 8) (ha : after.length ≤ 9) (hsub : ∀ x ∈ l, x ∈ after) : ∀ (n j k : Nat), j + n = l.length → n + 13 ≤ k →
    headgatelaw12_SlabUndo.l0 k l (l.length : Int) after (j : Int) = some true := by
  intro n
  induction n with
  | zero =>
    intro j k hj hk
    obtain ⟨k, rfl⟩ : ∃ m, k = m + 1 := ⟨k - 1, by omega⟩
    simp only [headgatelaw12_SlabUndo.l0]
    rw [if_neg (by omega)]
    rfl
  | succ n ih =>
    intro j k hj hk
    obtain ⟨k, rfl⟩ : ∃ m, k = m + 1 := ⟨k - 1, by omega⟩
    have hw : wrap64 ((j : Int) + 1) = ((j + 1 : Nat) : Int) := by unfold wrap64; omega
    have hr : rd l (j : Int) = l[j]'(by omega) := by simp [rd, show j < l.length by omega]
    have hm : l[j]'(by omega) ∈ after := hsub _ (List.getElem_mem _)
    simp only [headgatelaw12_SlabUndo.l0]
    rw [if_pos (by omega), if_pos (by omega), if_pos (by omega), has_f _ _ (by omega) k (by omega), hr, Option.bind_some, if_pos (by simpa using hm), hw]
    exact ih (j + 1) k (by omega) (by omega)
theorem j1_u (k : Nat) (hk : 25 ≤ k) (f u : Int) (f0 : 0 ≤ f) (f1 : f < 256) (u0 : 0 ≤ u) (u1 : u ≤ 255) : headgatelaw12_SlabUndo.j1 (k + 1) (objsV f u) ((objsV f u).length : Int) f u = some true := by
  have hU := und_of u u0 u1
  have hb : ¬ badF f := by unfold badF; omega
  have hc : chkE f = 0 := chk_ok f0 f1
  have ho := objs_plain f u f0 f1 hU.small
  have hlen : (objsV f u).length = (pls 8 u).length := by rw [ho, List.length_map]
  have hl8 := (objs_len f u u0 u1).2
  simp only [headgatelaw12_SlabUndo.j1]
  rw [alloc_f _ f u u0 u1]
  simp only [Option.bind_some]
  by_cases hu : u = 255
  · obtain ⟨e1, e2, e3, e4⟩ := a_full hb hu
    have h8 := hU.fulr hu
    rw [if_pos (by omega), e4, if_pos rfl]
    unfold headgatelaw12_state.f
    rw [state_f]
    simp only [Option.bind_some]
    rw [show stV f u = 3 from by unfold stV; rw [if_neg hb, hu]; rfl, if_pos rfl, hc]
    rfl
  · obtain ⟨e1, e2, e3, e4⟩ := a_ok hb hu
    obtain ⟨a0, a1, hfu, hbt, hn, hin, hl1, hsub, hsm⟩ := hU.rest hu
    have ht := (fact_split (facts_of u 0 u0 u1 (by omega) (by omega))).2.2.2.2.2 hu
    have h8 : (pls 8 u).length ≠ 8 := fun h => hu (hU.full h)
    have hoa := objs_plain f (au u) f0 f1 hsm
    have hok : okF f (au u) (8 * f + tz u) := by
      unfold okF
      have q1 : (8 * f + tz u) / 8 = f := by omega
      have q2 : (8 * f + tz u) % 8 = tz u := by omega
      rw [q1, q2]
      exact ⟨hb, by omega, by omega, rfl, hbt⟩
    obtain ⟨r1, r2, r3⟩ := r_ok hok
    rw [show (8 * f + tz u) % 8 = tz u from by omega, hfu] at r2
    have hlo : (objsV f (au u)).length = (objsV f u).length + 1 := by rw [hoa, List.length_map, hl1, hlen]
    rw [if_neg (by omega), e1, e2, e3, e4, objs_f _ f (au u) a0 a1, free_f f (au u) _ a0 a1]
    simp only [Option.bind_some]
    rw [if_pos trivial, hc, if_pos rfl, r3, if_pos rfl, r1, r2, if_neg (by simp), has_f _ _ (by omega) k (by omega), Option.bind_some, if_neg (by rw [ho]; simp only [decide_eq_true_eq, mem_shift]; exact hn), has_f _ _ (by omega) k (by omega), Option.bind_some, if_pos (by rw [hoa]; simp only [decide_eq_true_eq, mem_shift]; exact hin)]
    rw [show (((objsV f (au u)).length : Int) != wrap64 (((objsV f u).length : Int) + 1)) = false from by
      have : wrap64 (((objsV f u).length : Int) + 1) = ((objsV f (au u)).length : Int) := by unfold wrap64; omega
      rw [this]; simp]
    obtain ⟨k, rfl⟩ : ∃ m, k = m + 1 := ⟨k - 1, by omega⟩
    simp only [headgatelaw12_SlabUndo.j2, Bool.false_eq_true, if_false]
    refine l0_f _ _ (by omega) (by omega) (fun x hx => ?_) (objsV f u).length 0 k (by omega) (by omega)
    rw [ho] at hx
    obtain ⟨p, hp, rfl⟩ := List.mem_map.1 hx
    rw [hoa]
    exact (mem_shift f p _).2 (hsub p hp)
theorem j0_u (k : Nat) (hk : 26 ≤ k) (f u : Int) (f0 : 0 ≤ f) (f1 : f < 256) (u0 : 0 ≤ u) (u1 : u ≤ 255) : headgatelaw12_SlabUndo.j0 (k + 1) (objsV f u) ((objsV f u).length : Int) false f u = some true := by
  have hU := und_of u u0 u1
  have hb : ¬ badF f := by unfold badF; omega
  have ho := objs_plain f u f0 f1 hU.small
  have hj1 : headgatelaw12_SlabUndo.j1 k (objsV f u) ((objsV f u).length : Int) f u = some true := by
    obtain ⟨k, rfl⟩ : ∃ m, k = m + 1 := ⟨k - 1, by omega⟩
    exact j1_u k (by omega) f u f0 f1 u0 u1
  simp only [headgatelaw12_SlabUndo.j0, Bool.false_eq_true, if_false]
  by_cases h0 : ((objsV f u).length : Int) > 0
  · rw [if_pos h0, if_pos h0]
    cases hp : pls 8 u with
    | nil => rw [ho, hp] at h0; simp at h0
    | cons p l =>
      obtain ⟨q1, q2, q3, q4, q5, q6⟩ := hU.first p l hp
      have hps := hU.small p (by rw [hp]; simp)
      have hr : rd (objsV f u) 0 = 8 * f + p := by rw [ho, hp]; simp [rd]
      have hok : okF f u (8 * f + p) := by
        unfold okF
        have d1 : (8 * f + p) / 8 = f := by omega
        have d2 : (8 * f + p) % 8 = p := by omega
        rw [d1, d2]
        exact ⟨hb, by omega, by omega, rfl, q1⟩
      obtain ⟨r1, r2, r3⟩ := r_ok hok
      rw [show (8 * f + p) % 8 = p from by omega] at r2
      obtain ⟨e1, e2, e3, e4⟩ := a_ok hb q4
      rw [hr, free_f f u _ u0 u1]
      simp only [Option.bind_some]
      rw [r1, r2, r3, alloc_f _ f _ q2 q3]
      simp only [Option.bind_some]
      rw [if_pos trivial, e4, if_pos rfl, e3, if_neg (by omega)]
      by_cases heq : 8 * f + tz (fu u p) = 8 * f + p
      · rw [if_pos heq, e1, e2, q6 (by omega), if_neg (by simp)]
        exact hj1
      · rw [if_neg heq]
        exact hj1
  · rw [if_neg h0]
    exact hj1
theorem undo_true (a : Int) : headgatelaw12_SlabUndo.f 40 a = some true := by
  obtain ⟨f, u, hm, f0, f1, u0, u1⟩ := made_f a
  have hc : chkE f = 0 := chk_ok f0 f1
  have hl := objs_len f u u0 u1
  unfold headgatelaw12_SlabUndo.f
  rw [hm]
  simp only [Option.bind_some]
  rw [objs_f _ f u u0 u1, cnt_f _ f u u0 u1]
  simp only [Option.bind_some]
  rw [hc, ← hl.1, if_pos rfl, if_pos rfl, if_pos rfl, show decide (((objsV f u).length : Int) > 8) = false from decide_eq_false (by omega)]
  exact j0_u 39 (by omega) f u f0 f1 u0 u1
theorem undo_walk (a0 : Int) (w0 : (Lit.int .i64 a0).wf = true) (w : World) :
    Calls Try.prog 6 #[.int .i64 a0] w fun e w' => e = .returned (.bool true) ∧ Below w.heap.size w w' :=
  headgatelaw12_SlabUndo.calls 40 a0 true w (undo_true a0) ⟨rfl⟩
end Go.Proofs.Ytbhbddpebhccgaa.PA
