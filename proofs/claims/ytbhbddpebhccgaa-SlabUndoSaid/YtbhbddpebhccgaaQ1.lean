/- Plain laws of chapter 12: what the reference answers, in closed form; SlabSteps. -/
import Derived.Test.YtbhbddpebhccgaaPAx4
import Derived.OpenShut
namespace Go.Proofs.Ytbhbddpebhccgaa.PA
open Go.RowKit Go.Proofs.YtbhbddpebhccgaaW.PrintWords Go.Proofs.YtbhbddpebhccgaaW.PrintLast Go.Proofs.YtbhbddpebhccgaaW.PrintMore
set_option linter.unusedVariables false
set_option linter.unusedSimpArgs false

theorem rchk_f (f u : Int) : headgateref12_Check.f f u = some (chkE f) := by
  unfold headgateref12_Check.f chkE
  by_cases h : f < 0
  · rw [if_pos h, if_pos (Or.inl h)]
  · by_cases h2 : f ≥ 256
    · rw [if_neg h, if_pos h2, if_pos (Or.inr h2)]
    · rw [if_neg h, if_neg h2, if_neg (by omega)]
theorem chk_f (f u : Int) : slab_Check.f f u = some (chkE f) := by
  unfold slab_Check.f chkE
  by_cases h : f < 0
  · rw [if_pos h, if_pos (Or.inl h)]
  · by_cases h2 : f ≥ 256
    · rw [if_neg h, if_pos h2, if_pos (Or.inr h2)]
    · rw [if_neg h, if_neg h2, if_neg (by omega)]
theorem used8 : ∀ (p : Fin 8) (n : Fin 256), headgateref12_used.f 0 (n.val : Int) (p.val : Int) = some (bitB (n.val : Int) (p.val : Int)) := by decide +kernel
theorem used_f (f u p : Int) (u0 : 0 ≤ u) (u1 : u ≤ 255) (p0 : 0 ≤ p) (p1 : p < 8) : headgateref12_used.f f u p = some (bitB u p) :=
  fin8 (P := fun p => headgateref12_used.f 0 u p = some (bitB u p)) (fun q => fin256 (P := fun u => headgateref12_used.f 0 u (q.val : Int) = some (bitB u (q.val : Int))) (used8 q) u u0 u1) p p0 p1
/-- the places of the bits from p on -/
def bl (u : Int) : Nat → Nat → List Int
  | 0, _ => []
  | m + 1, p => if bitB u (p : Int) = true then (p : Int) :: bl u m (p + 1) else bl u m (p + 1)
theorem pls_bl8 : ∀ n : Fin 256, pls 8 (n.val : Int) = bl (n.val : Int) 8 0 := by decide +kernel
theorem pls_bl (u : Int) (u0 : 0 ≤ u) (u1 : u ≤ 255) : pls 8 u = bl u 8 0 := fin256 (P := fun u => pls 8 u = bl u 8 0) pls_bl8 u u0 u1
theorem objs_l0 (f u : Int) (f0 : 0 ≤ f) (f1 : f < 256) (u0 : 0 ≤ u) (u1 : u ≤ 255) : ∀ (m p k : Nat) (l : List Int), p + m = 8 → m < k → l.length ≤ p →
    headgateref12_Objects.l0 k l (p : Int) f u = some (l ++ (bl u m p).map fun q => wrap64 (8 * f + q), 0) := by
  have hw : wrap64 (8 * f) = 8 * f := by unfold wrap64; omega
  intro m
  induction m with
  | zero =>
    intro p k l hp hk hl
    obtain ⟨k, rfl⟩ : ∃ j, k = j + 1 := ⟨k - 1, by omega⟩
    unfold headgateref12_Objects.l0
    rw [if_neg (by omega)]
    simp [bl]
  | succ m ih =>
    intro p k l hp hk hl
    obtain ⟨k, rfl⟩ : ∃ j, k = j + 1 := ⟨k - 1, by omega⟩
    have hs : wrap64 ((p : Int) + 1) = ((p + 1 : Nat) : Int) := by unfold wrap64; omega
    unfold headgateref12_Objects.l0
    rw [if_pos (by omega), used_f f u p u0 u1 (by omega) (by omega), Option.bind_some, hs, hw]
    by_cases hb : bitB u (p : Int) = true
    · rw [if_pos hb, if_pos (by omega), ih (p + 1) k _ (by omega) (by omega) (by rw [List.length_append]; simp; omega)]
      simp [bl, hb]
    · rw [if_neg hb, ih (p + 1) k _ (by omega) (by omega) (by omega)]
      simp [bl, hb]
theorem robjs_f (k : Nat) (hk : 9 ≤ k) (f u : Int) (u0 : 0 ≤ u) (u1 : u ≤ 255) : headgateref12_Objects.f k f u = some (objsV f u, chkE f) := by
  unfold headgateref12_Objects.f
  rw [rchk_f, Option.bind_some]
  unfold objsV
  by_cases hb : badF f
  · have h2 : chkE f = 2 := chk_no hb
    rw [h2, if_neg (by omega), if_pos hb]
  · have hb' := hb
    unfold badF at hb'
    have h2 : chkE f = 0 := chk_ok (by omega) (by omega)
    have h := objs_l0 f u (by omega) (by omega) u0 u1 8 0 k [] rfl (by omega) (by simp)
    rw [h2, if_pos rfl, if_neg hb, pls_bl u u0 u1]
    exact h
theorem objs_f (k : Nat) (f u : Int) (u0 : 0 ≤ u) (u1 : u ≤ 255) : slab_Objects.f k f u = some (objsV f u, chkE f) := by
  unfold slab_Objects.f
  rw [if_pos ⟨u0, u1⟩]
theorem pls_len8 : ∀ n : Fin 256, ((pls 8 (n.val : Int)).length : Int) = (Lib.onesCount ((n.val : Int)).toNat : Int) ∧ (pls 8 (n.val : Int)).length ≤ 8 ∧ ofS (n.val : Int) = (if ((pls 8 (n.val : Int)).length : Int) = 0 then 1 else if ((pls 8 (n.val : Int)).length : Int) = 8 then 3 else 2) := by decide +kernel
theorem pls_len (u : Int) (u0 : 0 ≤ u) (u1 : u ≤ 255) : ((pls 8 u).length : Int) = (Lib.onesCount u.toNat : Int) ∧ (pls 8 u).length ≤ 8 ∧ ofS u = (if ((pls 8 u).length : Int) = 0 then 1 else if ((pls 8 u).length : Int) = 8 then 3 else 2) :=
  fin256 (P := fun u => ((pls 8 u).length : Int) = (Lib.onesCount u.toNat : Int) ∧ (pls 8 u).length ≤ 8 ∧ ofS u = (if ((pls 8 u).length : Int) = 0 then 1 else if ((pls 8 u).length : Int) = 8 then 3 else 2)) pls_len8 u u0 u1
theorem objs_len (f u : Int) (u0 : 0 ≤ u) (u1 : u ≤ 255) : ((objsV f u).length : Int) = cntV f u ∧ (objsV f u).length ≤ 8 := by
  have h := pls_len u u0 u1
  unfold objsV cntV
  by_cases hb : badF f
  · rw [if_pos hb, if_pos hb]; simp
  · rw [if_neg hb, if_neg hb, List.length_map]; exact ⟨h.1, h.2.1⟩
theorem cnt_f (k : Nat) (f u : Int) (u0 : 0 ≤ u) (u1 : u ≤ 255) : slab_Count.f k f u = some (cntV f u, chkE f) := by
  unfold slab_Count.f
  rw [if_pos ⟨u0, u1⟩]
theorem rcnt_f (k : Nat) (hk : 9 ≤ k) (f u : Int) (u0 : 0 ≤ u) (u1 : u ≤ 255) : headgateref12_Count.f k f u = some (cntV f u, chkE f) := by
  unfold headgateref12_Count.f
  rw [robjs_f k hk f u u0 u1, Option.bind_some, (objs_len f u u0 u1).1]
theorem of_f (f u : Int) : slab_of.f f u = some (ofS u) := by
  unfold slab_of.f ofS
  by_cases h : u = 0
  · rw [if_pos h, if_pos h]
  · rw [if_neg h, if_neg h]
    by_cases h2 : u = 255
    · rw [if_pos h2, if_pos h2]
    · rw [if_neg h2, if_neg h2]
def stV (f u : Int) : Int := if badF f then 0 else ofS u
theorem state_f (f u : Int) : slab_State.f f u = some (stV f u, chkE f) := by
  unfold slab_State.f stV
  rw [chk_f, Option.bind_some]
  by_cases hb : badF f
  · have h2 : chkE f = 2 := chk_no hb
    rw [h2, if_neg (by omega), if_pos hb]
  · have hb' := hb
    unfold badF at hb'
    have h2 : chkE f = 0 := chk_ok (by omega) (by omega)
    rw [h2, if_pos rfl, of_f, Option.bind_some, if_neg hb]
theorem rstate_f (k : Nat) (hk : 9 ≤ k) (f u : Int) (u0 : 0 ≤ u) (u1 : u ≤ 255) : headgateref12_State.f k f u = some (stV f u, chkE f) := by
  unfold headgateref12_State.f stV
  rw [rcnt_f k hk f u u0 u1, Option.bind_some]
  by_cases hb : badF f
  · have h2 : chkE f = 2 := chk_no hb
    rw [h2]
    simp only
    rw [if_neg (by omega), if_pos hb]
  · have hb' := hb
    unfold badF at hb'
    have h2 : chkE f = 0 := chk_ok (by omega) (by omega)
    have hl := pls_len u u0 u1
    have hc : cntV f u = ((pls 8 u).length : Int) := by unfold cntV; rw [if_neg hb, hl.1]
    rw [h2, hc, if_neg hb, hl.2.2]
    simp only
    rw [if_pos trivial]
    by_cases h0 : ((pls 8 u).length : Int) = 0
    · rw [if_pos h0, if_pos h0]
    · rw [if_neg h0, if_neg h0]
      by_cases h8 : ((pls 8 u).length : Int) = 8
      · rw [if_pos h8, if_pos h8]
      · rw [if_neg h8, if_neg h8]
theorem shl8 : ∀ p : Fin 8, (0 ≤ IntKind.u64.wrap (p.val : Int)) ∧ shl .u8 1 (IntKind.u64.wrap (p.val : Int)) = 2 ^ ((p.val : Int)).toNat % 256 := by decide +kernel
theorem shl_f (p : Int) (p0 : 0 ≤ p) (p1 : p < 8) : (0 ≤ IntKind.u64.wrap p) ∧ shl .u8 1 (IntKind.u64.wrap p) = 2 ^ p.toNat % 256 :=
  fin8 (P := fun p => (0 ≤ IntKind.u64.wrap p) ∧ shl .u8 1 (IntKind.u64.wrap p) = 2 ^ p.toNat % 256) shl8 p p0 p1
theorem fact_split {u p : Int} (h : facts u p = true) : (bitB u p = true → fu u p = (u - 2 ^ p.toNat % 256) % 256) ∧ (u ≠ 255 → p < tz u → bitB u p = true) ∧ (u ≠ 255 → p = tz u → bitB u p = false) ∧
    (u ≠ 255 → p = tz u → au u = (u + 2 ^ p.toNat % 256) % 256) ∧ (u = 255 → bitB u p = true) ∧ (u ≠ 255 → 0 ≤ tz u ∧ tz u ≤ 7) := by
  unfold facts at h
  simp only [Bool.and_eq_true, Bool.or_eq_true, beq_iff_eq, Bool.not_eq_true', decide_eq_false_iff_not, decide_eq_true_eq, beq_eq_false_iff_ne] at h
  obtain ⟨⟨⟨⟨⟨⟨⟨h1, h2⟩, h3⟩, h4⟩, h5⟩, h6⟩, h7⟩, h8⟩ := h
  refine ⟨fun hb => ?_, fun hu hp => ?_, fun hu hp => ?_, fun hu hp => ?_, fun hu => ?_, fun hu => ?_⟩
  · rcases h3 with h3 | h3
    · rw [hb] at h3; cases h3
    · exact h3
  · rcases h4 with (h4 | h4) | h4
    · exact absurd h4 hu
    · exact absurd hp h4
    · exact h4
  · rcases h5 with (h5 | h5) | h5
    · exact absurd h5 hu
    · exact absurd hp h5
    · exact h5
  · rcases h6 with (h6 | h6) | h6
    · exact absurd h6 hu
    · exact absurd hp h6
    · exact h6
  · rcases h7 with h7 | h7
    · exact absurd hu h7
    · exact h7
  · rcases h8 with h8 | h8
    · exact absurd h8 hu
    · exact h8
theorem alloc_l0 (f u : Int) (f0 : 0 ≤ f) (f1 : f < 256) (u0 : 0 ≤ u) (u1 : u ≤ 255) (hu : u ≠ 255) : ∀ (m p k : Nat), (p : Int) + m = tz u → m < k →
    headgateref12_Alloc.l0 k (p : Int) f u = some (f, au u, 8 * f + tz u, 0) := by
  have hw : wrap64 (8 * f) = 8 * f := by unfold wrap64; omega
  have ht := (fact_split (facts_of u 0 u0 u1 (by omega) (by omega))).2.2.2.2.2 hu
  intro m
  induction m with
  | zero =>
    intro p k hp hk
    obtain ⟨k, rfl⟩ : ∃ j, k = j + 1 := ⟨k - 1, by omega⟩
    have hs := fact_split (facts_of u p u0 u1 (by omega) (by omega))
    have hl := shl_f (p : Int) (by omega) (by omega)
    unfold headgateref12_Alloc.l0
    rw [if_pos (by omega), used_f f u p u0 u1 (by omega) (by omega), Option.bind_some, hs.2.2.1 hu (by omega), if_neg (by simp), if_pos hl.1, hl.2, hw, ← hs.2.2.2.1 hu (by omega), show wrap64 (8 * f + (p : Int)) = 8 * f + tz u from by unfold wrap64; omega]
  | succ m ih =>
    intro p k hp hk
    obtain ⟨k, rfl⟩ : ∃ j, k = j + 1 := ⟨k - 1, by omega⟩
    have hs := fact_split (facts_of u p u0 u1 (by omega) (by omega))
    have hs1 : wrap64 ((p : Int) + 1) = ((p + 1 : Nat) : Int) := by unfold wrap64; omega
    unfold headgateref12_Alloc.l0
    rw [if_pos (by omega), used_f f u p u0 u1 (by omega) (by omega), Option.bind_some, hs.2.1 hu (by omega), if_pos rfl, hs1]
    exact ih (p + 1) k (by omega) (by omega)
theorem alloc_full (f : Int) : ∀ (m p k : Nat), p + m = 8 → m < k → headgateref12_Alloc.l0 k (p : Int) f 255 = some (0, 0, 0, 5) := by
  intro m
  induction m with
  | zero =>
    intro p k hp hk
    obtain ⟨k, rfl⟩ : ∃ j, k = j + 1 := ⟨k - 1, by omega⟩
    unfold headgateref12_Alloc.l0
    rw [if_neg (by omega)]
  | succ m ih =>
    intro p k hp hk
    obtain ⟨k, rfl⟩ : ∃ j, k = j + 1 := ⟨k - 1, by omega⟩
    have hs := fact_split (facts_of 255 p (by omega) (by omega) (by omega) (by omega))
    have hs1 : wrap64 ((p : Int) + 1) = ((p + 1 : Nat) : Int) := by unfold wrap64; omega
    unfold headgateref12_Alloc.l0
    rw [if_pos (by omega), used_f f 255 p (by omega) (by omega) (by omega) (by omega), Option.bind_some, hs.2.2.2.2.1 rfl, if_pos rfl, hs1]
    exact ih (p + 1) k (by omega) (by omega)
theorem ralloc_f (k : Nat) (hk : 9 ≤ k) (f u : Int) (u0 : 0 ≤ u) (u1 : u ≤ 255) : headgateref12_Alloc.f k f u = some (aF f u, aU f u, aO f u, aE f u) := by
  unfold headgateref12_Alloc.f
  rw [rchk_f, Option.bind_some]
  by_cases hb : badF f
  · obtain ⟨e1, e2, e3, e4⟩ := a_bad (u := u) hb
    have h2 : chkE f = 2 := chk_no hb
    rw [h2, if_neg (by omega), e1, e2, e3, e4]
  · have hb' := hb
    unfold badF at hb'
    have h2 : chkE f = 0 := chk_ok (by omega) (by omega)
    rw [h2, if_pos rfl]
    by_cases hu : u = 255
    · obtain ⟨e1, e2, e3, e4⟩ := a_full hb hu
      rw [e1, e2, e3, e4, hu]
      exact alloc_full f 8 0 k rfl (by omega)
    · obtain ⟨e1, e2, e3, e4⟩ := a_ok hb hu
      rw [e1, e2, e3, e4]
      have ht := (fact_split (facts_of u 0 u0 u1 (by omega) (by omega))).2.2.2.2.2 hu
      exact alloc_l0 f u (by omega) (by omega) u0 u1 hu (tz u).toNat 0 k (by omega) (by omega)
theorem alloc_f (k : Nat) (f u : Int) (u0 : 0 ≤ u) (u1 : u ≤ 255) : slab_Alloc.f k f u = some (aF f u, aU f u, aO f u, aE f u) := by
  unfold slab_Alloc.f
  rw [if_pos ⟨u0, u1⟩]
theorem rsplit_f (o : Int) : headgateref12_Split.f o = some (if o < 0 ∨ 2048 ≤ o then (0, 0, 2) else (o / 8, o % 8, 0)) := by
  unfold headgateref12_Split.f
  by_cases h : o < 0
  · rw [if_pos h, if_pos (Or.inl h)]
  · by_cases h2 : o ≥ 2048
    · rw [if_neg h, if_pos h2, if_pos (Or.inr h2)]
    · rw [if_neg h, if_neg h2, if_neg (by omega)]
      have h3 : Int.tdiv o 8 = o / 8 := Int.tdiv_eq_ediv_of_nonneg (by omega)
      have h4 : Int.tmod o 8 = o % 8 := Int.tmod_eq_emod_of_nonneg (by omega)
      rw [h3, h4, show wrap64 (o / 8) = o / 8 from by unfold wrap64; omega]
theorem rfree_f (f u o : Int) (u0 : 0 ≤ u) (u1 : u ≤ 255) : headgateref12_Free.f f u o = some (rF f u o, rU f u o, rE f u o) := by
  unfold headgateref12_Free.f
  rw [rchk_f, Option.bind_some]
  by_cases hb : badF f
  · obtain ⟨e1, e2, e3⟩ := r_bad (u := u) (o := o) hb
    have h2 : chkE f = 2 := chk_no hb
    rw [h2, if_neg (by omega), e1, e2, e3]
  · have hb' := hb
    unfold badF at hb'
    have h2 : chkE f = 0 := chk_ok (by omega) (by omega)
    rw [h2, if_pos rfl, rsplit_f, Option.bind_some]
    by_cases ho : o < 0 ∨ 2048 ≤ o
    · obtain ⟨e1, e2, e3⟩ := r_range (u := u) hb ho
      rw [if_pos ho, e1, e2, e3]
      simp only
      rw [if_neg (by omega)]
    · rw [if_neg ho]
      simp only
      rw [if_pos trivial]
      by_cases hf : o / 8 = f
      · rw [if_pos hf, used_f f u (o % 8) u0 u1 (by omega) (by omega), Option.bind_some]
        have hs := fact_split (facts_of u (o % 8) u0 u1 (by omega) (by omega))
        have hl := shl_f (o % 8) (by omega) (by omega)
        by_cases hbt : bitB u (o % 8) = true
        · obtain ⟨e1, e2, e3⟩ := r_ok (f := f) (u := u) (o := o) ⟨hb, by omega, by omega, hf, hbt⟩
          rw [if_pos hbt, if_pos hl.1, e1, e2, e3, hs.1 hbt, hl.2]
        · obtain ⟨e1, e2, e3⟩ := r_miss (f := f) (u := u) (o := o) hb (by omega) (Or.inr (by simpa using hbt))
          rw [if_neg hbt, e1, e2, e3]
      · obtain ⟨e1, e2, e3⟩ := r_miss (f := f) (u := u) (o := o) hb (by omega) (Or.inl hf)
        rw [if_neg hf, e1, e2, e3]
theorem free_f (f u o : Int) (u0 : 0 ≤ u) (u1 : u ≤ 255) : slab_Free.f f u o = some (rF f u o, rU f u o, rE f u o) := by
  unfold slab_Free.f
  rw [if_pos ⟨u0, u1⟩]
theorem sameInts (l : List Int) (hl : l.length ≤ 1000000) (k : Nat) (hk : l.length + 2 ≤ k) : headgatekit_SameInts.f k l l = some true := by
 have aux : ∀ (n j k : Nat), j + n = l.length → n + 1 ≤ k → headgatekit_SameInts.l0 k l l (j : Int) = some true := by
  intro n
  induction n with
  | zero =>
   intro j k hj hk
   obtain ⟨k, rfl⟩ : ∃ m, k = m + 1 := ⟨k - 1, by omega⟩
   simp only [headgatekit_SameInts.l0]
   rw [if_neg (by omega)]
  | succ n ih =>
   intro j k hj hk
   obtain ⟨k, rfl⟩ : ∃ m, k = m + 1 := ⟨k - 1, by omega⟩
   have hw : wrap64 ((j : Int) + 1) = ((j + 1 : Nat) : Int) := by unfold wrap64; omega
   simp only [headgatekit_SameInts.l0]
   rw [if_pos (by omega), if_pos (by omega), if_pos (by omega), if_pos trivial, hw]
   exact ih (j + 1) k (by omega) (by omega)
 unfold headgatekit_SameInts.f
 rw [if_pos rfl]
 exact aux l.length 0 k (by omega) (by omega)
theorem j2_f (k : Nat) (hk : 12 ≤ k) (f u o : Int) (u0 : 0 ≤ u) (u1 : u ≤ 255) : headgatelaw12_SlabSteps.j2 (k + 1) o false f u = some true := by
  have hl := (objs_len f u u0 u1).2
  simp only [headgatelaw12_SlabSteps.j2, Bool.false_eq_true, if_false]
  rw [free_f f u o u0 u1, rfree_f f u o u0 u1, objs_f _ f u u0 u1, robjs_f k (by omega) f u u0 u1]
  simp only [Option.bind_some]
  rw [if_pos (by simp), if_pos trivial, sameInts _ (by omega) k (by omega)]
  simp [headgatelaw12_awake.f]
theorem j1_f (k : Nat) (hk : 13 ≤ k) (f u o : Int) (u0 : 0 ≤ u) (u1 : u ≤ 255) : headgatelaw12_SlabSteps.j1 (k + 1) o false f u = some true := by
  simp only [headgatelaw12_SlabSteps.j1, Bool.false_eq_true, if_false]
  rw [alloc_f _ f u u0 u1, ralloc_f k (by omega) f u u0 u1]
  simp only [Option.bind_some]
  rw [if_neg (by simp), if_pos trivial, show (aE f u != aE f u) = false from by simp]
  obtain ⟨k, rfl⟩ : ∃ j, k = j + 1 := ⟨k - 1, by omega⟩
  exact j2_f k (by omega) f u o u0 u1
theorem j0_f (k : Nat) (hk : 14 ≤ k) (f u o : Int) (u0 : 0 ≤ u) (u1 : u ≤ 255) : headgatelaw12_SlabSteps.j0 (k + 1) o false f u = some true := by
  simp only [headgatelaw12_SlabSteps.j0, Bool.false_eq_true, if_false]
  rw [cnt_f _ f u u0 u1, rcnt_f k (by omega) f u u0 u1]
  simp only [Option.bind_some]
  rw [if_pos trivial, show (chkE f != chkE f) = false from by simp]
  obtain ⟨k, rfl⟩ : ∃ j, k = j + 1 := ⟨k - 1, by omega⟩
  exact j1_f k (by omega) f u o u0 u1
theorem steps_true (f u o : Int) (u0 : 0 ≤ u) (u1 : u ≤ 255) : headgatelaw12_SlabSteps.f 40 f u o = some true := by
  unfold headgatelaw12_SlabSteps.f
  rw [state_f, rstate_f 40 (by omega) f u u0 u1, chk_f, rchk_f]
  simp only [Option.bind_some]
  rw [if_pos trivial, if_pos trivial, show (chkE f != chkE f) = false from by simp]
  exact j0_f 39 (by omega) f u o u0 u1
theorem steps_walk (a0_0 : Int) (wf0 : (Lit.int .i64 a0_0).wf = true) (a0_1 : Int) (wf1 : (Lit.int .u8 a0_1).wf = true) (a1 : Int) (wf2 : (Lit.int .i64 a1).wf = true) (w : World) :
    Calls Try.prog 5 #[.agg #[.int .i64 a0_0, .int .u8 a0_1], .int .i64 a1] w fun e w' => e = .returned (.bool true) ∧ Below w.heap.size w w' := by
  have h := bounds_u8 wf1
  exact headgatelaw12_SlabSteps.calls 40 a0_0 a0_1 a1 true w (steps_true a0_0 a0_1 a1 h.1 h.2) ⟨rfl⟩
end Go.Proofs.Ytbhbddpebhccgaa.PA
