-- written by a program of this seat's prover out of the translation; Lean checks it
import Derived.Test.YtfjfmhkifaiakaaM6
import Derived.Test.YtfjfmhkifaiakaaPAx0
import Derived.Test.YtfjfmhkifaiakaaPAx4
namespace Go.Proofs.Ytfjfmhkifaiakaa.PA
open Go.RowKit Go.Proofs.YtfjfmhkifaiakaaW.PrintWords Go.Proofs.YtfjfmhkifaiakaaW.PrintLast Go.Proofs.YtfjfmhkifaiakaaW.PrintMore
attribute [local go_sem] max2_int min2_int max_two min_two max_three min_three max_four min_four   -- for this text's walks alone
set_option linter.unusedVariables false
set_option linter.unusedSimpArgs false

/-! ### pressure_Spans: function 24 -/
def pressure_Spans.l0 : Nat → List Bool → List (S49) → Int → Option ((List (S49)) × Int)
  | 0, _, _, _ => none
  | k + 1, x6, x8, x9 => if x9 < (x6.length : Int) then (if 0 ≤ x9 then (if rdOf false x6 x9 = true then (if x9 > 0 then (if 0 ≤ (wrap64 (x9 - 1)) then (if (wrap64 (x9 - 1)) < (x6.length : Int) then (if rdOf false x6 (wrap64 (x9 - 1)) = true then (if 0 ≤ (wrap64 ((x8.length : Int) - 1)) then (if (wrap64 ((x8.length : Int) - 1)) < (x8.length : Int) then (pressure_Spans.l0 k x6 (x8.set ((wrap64 ((x8.length : Int) - 1)) : Int).toNat (⟨(rd_T49 x8 (wrap64 ((x8.length : Int) - 1))).f0, x9⟩ : S49)) (wrap64 (x9 + 1))) else (none)) else (none)) else (if x8.length < 8796093022208 then (pressure_Spans.l0 k x6 (x8 ++ [(⟨x9, x9⟩ : S49)]) (wrap64 (x9 + 1))) else (none))) else (none)) else (none)) else (if x8.length < 8796093022208 then (pressure_Spans.l0 k x6 (x8 ++ [(⟨x9, x9⟩ : S49)]) (wrap64 (x9 + 1))) else (none))) else (pressure_Spans.l0 k x6 x8 (wrap64 (x9 + 1)))) else (none)) else (some (x8, 0))
def pressure_Spans.f (k : Nat) (a0_0 : Int) (a0_1 : Int) (a0_2 : Int) (l1 : List Int) : Option ((List (S49)) × Int) := (pressure_Run.f k a0_0 a0_1 a0_2 l1).bind fun bt281 => (if bt281.2 = 0 then (pressure_Spans.l0 k bt281.1 ([] : List (S49)) 0) else (some (([] : List (S49)), bt281.2)))
theorem pressure_Spans.mono_l : ∀ k, (∀ y0 y1 y2, LeO (pressure_Spans.l0 k y0 y1 y2) (pressure_Spans.l0 (k + 1) y0 y1 y2))
  | 0 => fun _ _ _ r h => by simp [pressure_Spans.l0] at h
  | k + 1 => by
    have ih0 := pressure_Spans.mono_l k
    · intro y0 y1 y2
      unfold pressure_Spans.l0
      repeat' first
      | (with_reducible exact ih0 _ _ _)
      | (with_reducible exact pressure_Run.mono _ _ _ _ _)
      | (with_reducible exact LeO.refl _)
      | (with_reducible exact LeO.none _)
      | (with_reducible refine LeO.ite ?_ ?_)
      | (with_reducible refine LeO.bind ?_ (fun _ => ?_))
      | exact ih0 _ _ _
      | exact pressure_Run.mono _ _ _ _ _
      | exact LeO.none _
      | refine LeO.ite ?_ ?_
      | refine LeO.bind ?_ (fun _ => ?_)
theorem pressure_Spans.mono : ∀ a0 a1 a2 a3 k, LeO (pressure_Spans.f k a0 a1 a2 a3) (pressure_Spans.f (k + 1) a0 a1 a2 a3) := by
  intro a0 a1 a2 a3 k
  have ih0 := pressure_Spans.mono_l k
  unfold pressure_Spans.f
  repeat' first
      | (with_reducible exact ih0 _ _ _)
      | (with_reducible exact pressure_Run.mono _ _ _ _ _)
      | (with_reducible exact LeO.refl _)
      | (with_reducible exact LeO.none _)
      | (with_reducible refine LeO.ite ?_ ?_)
      | (with_reducible refine LeO.bind ?_ (fun _ => ?_))
      | exact ih0 _ _ _
      | exact pressure_Run.mono _ _ _ _ _
      | exact LeO.none _
      | refine LeO.ite ?_ ?_
      | refine LeO.bind ?_ (fun _ => ?_)
def mS (s : Int × Int) : S49 := ⟨s.1, s.2⟩
theorem spF_snd (md hi : Int) (l : List Int) (j : Nat) : (spF (stTo md hi l j)).2 = awAt md hi l j := by
  cases j with
  | zero => rfl
  | succ j => rw [stTo_succ, spF_snoc]
theorem set_last (T : List (Int × Int)) (s : Int × Int) (i : Int) (n : Nat) (hn : n = T.length) :
    ((T ++ [s]).map mS).set n (⟨(((T ++ [s]).map mS).getD n z49).f0, i⟩ : S49) = (T ++ [(s.1, i)]).map mS := by
  subst hn
  have e : ((T ++ [s]).map mS).getD T.length z49 = mS s := by simp [List.getD_eq_getElem?_getD]
  rw [e, List.map_append, List.map_append, List.set_append_right _ _ (by simp)]
  simp [mS]
theorem pressure_Spans_l0 (md hi : Int) (l : List Int) (hl : l.length ≤ 400) : ∀ (k j : Nat) (r1 : List S49) (r2 : Int), j ≤ l.length →
    pressure_Spans.l0 k ((stTo md hi l l.length).map (·.2)) ((spF (stTo md hi l j)).1.map mS) (j : Int) = some (r1, r2) → r1 = (spF (stTo md hi l l.length)).1.map mS ∧ r2 = 0 := by
  intro k
  have hbl : ((stTo md hi l l.length).map (·.2)).length = l.length := by simp [stTo_len]
  have hget : ∀ j : Nat, j < l.length → rdOf false ((stTo md hi l l.length).map (·.2)) (j : Int) = awAt md hi l (j + 1) := by
    intro j hj
    simp [rdOf, stTo, List.getD_eq_getElem?_getD, hj]
  generalize (stTo md hi l l.length).map (·.2) = bs at hbl hget
  induction k with
  | zero => intro j r1 r2 _ h; simp [pressure_Spans.l0] at h
  | succ k ih =>
    intro j r1 r2 hj h
    simp only [pressure_Spans.l0] at h
    rw [hbl] at h
    by_cases hlt : j < l.length
    · rw [if_pos (by omega), if_pos (by omega), hget j hlt] at h
      have hw : wrap64 ((j : Int) + 1) = ((j + 1 : Nat) : Int) := by unfold wrap64; omega
      have hlen := spF_len (stTo md hi l j)
      rw [stTo_len] at hlen
      have hsn := spF_snd md hi l j
      have hstep : (spF (stTo md hi l (j + 1))).1 = spStep (spF (stTo md hi l j)).1 (spF (stTo md hi l j)).2 j (awAt md hi l (j + 1)) := by rw [stTo_succ, spF_snoc]
      rw [hw] at h
      by_cases ha : awAt md hi l (j + 1) = true
      · rw [if_pos ha] at h
        have happ : (awAt md hi l j = false) → (if ((spF (stTo md hi l j)).1.map mS).length < 8796093022208 then pressure_Spans.l0 k bs ((spF (stTo md hi l j)).1.map mS ++ [(⟨(j : Int), (j : Int)⟩ : S49)]) ((j + 1 : Nat) : Int) else none) = some (r1, r2) → r1 = (spF (stTo md hi l l.length)).1.map mS ∧ r2 = 0 := by
          intro hf h
          rw [if_pos (by simp; omega)] at h
          refine ih (j + 1) r1 r2 (by omega) ?_
          rw [hstep, hsn, hf, ha]
          simpa [spStep, mS] using h
        by_cases hj0 : j = 0
        · subst hj0
          rw [if_neg (by omega)] at h
          exact happ rfl h
        · rw [if_pos (by omega)] at h
          have hw1 : wrap64 ((j : Int) - 1) = ((j - 1 : Nat) : Int) := by unfold wrap64; omega
          rw [hw1, if_pos (by omega), if_pos (by omega), hget (j - 1) (by omega), show j - 1 + 1 = j by omega] at h
          by_cases hb : awAt md hi l j = true
          · rw [if_pos hb] at h
            have hne := hlen.2 (by rw [hsn, hb])
            obtain ⟨T, s, hT⟩ : ∃ T s, (spF (stTo md hi l j)).1 = T ++ [s] := ⟨_, _, (List.dropLast_concat_getLast hne).symm⟩
            rw [hT] at h hlen
            have hTl : ((T ++ [s]).map mS).length = T.length + 1 := by simp
            have hw2 : wrap64 ((((T ++ [s]).map mS).length : Int) - 1) = ((T.length : Nat) : Int) := by rw [hTl]; unfold wrap64; simp at hlen; omega
            rw [hw2, if_pos (by omega), if_pos (by rw [hTl]; omega)] at h
            refine ih (j + 1) r1 r2 (by omega) ?_
            rw [hstep, hsn, hb, ha, hT]
            have e1 : spStep (T ++ [s]) true (j : Int) true = T ++ [(s.1, (j : Int))] := by
              have e2 : (T ++ [s]).getLastD (0, 0) = s := by rw [List.getLastD_eq_getLast?, List.getLast?_concat]; rfl
              unfold spStep
              rw [if_pos rfl, if_pos rfl, List.dropLast_concat, e2]
            rw [e1, ← set_last T s (j : Int) T.length rfl]
            simpa [rd_T49] using h
          · rw [if_neg hb] at h
            exact happ (by simpa using hb) h
      · rw [if_neg ha] at h
        refine ih (j + 1) r1 r2 (by omega) ?_
        have ha' : awAt md hi l (j + 1) = false := by simpa using ha
        rw [hstep, ha']
        simpa [spStep] using h
    · obtain rfl : j = l.length := by omega
      rw [if_neg (by omega)] at h
      have := Option.some.inj h
      simp only [Prod.mk.injEq] at this
      exact ⟨this.1.symm, this.2.symm⟩
theorem spans_of {w : World} {base : Nat} {v : Value} {S : List (Int × Int)} (h : w.ownsRow base 49 2 v S.length (spC S)) : Kd.R k49 49 w base (fun _ => True) v (S.map mS) := by
  refine ⟨fun _ _ => trivial, spC S, ?_, ?_, ?_⟩
  · rw [List.length_map]; exact h
  · rw [List.length_map]; exact spC_len S
  · intro j p hj
    rw [List.getElem?_map] at hj
    cases hs : S[j]? with
    | none => rw [hs] at hj; cases hj
    | some s =>
      rw [hs] at hj
      obtain rfl := Option.some.inj hj
      obtain ⟨hj', rfl⟩ := List.getElem?_eq_some_iff.1 hs
      have e : S = S.take j ++ ([S[j]] ++ S.drop (j + 1)) := by
        rw [List.singleton_append, ← List.drop_eq_getElem_cons hj', List.take_append_drop]
      have e2 : (spC S).drop (j * 2) = spC ([S[j]] ++ S.drop (j + 1)) := by
        conv => lhs; rw [e]
        rw [spC_append, List.drop_left' (by rw [spC_len, List.length_take]; omega)]
      rw [show k49.sz = 2 from rfl, e2]
      exact k49_mkM w base _ (mS S[j])
set_option maxHeartbeats 8000000 in
set_option maxRecDepth 100000 in
theorem pressure_Spans.calls (k : Nat) (a0_0 : Int) (a0_1 : Int) (a0_2 : Int) (A1 : Option Addr) (c1 : Nat) (l1 : List Int) (r1 : List (S49)) (r2 : Int) (w : World) (hr1 : Kd.C (Kd.int .i64) w A1 l1.length l1) (hc1 : l1.length ≤ c1) (h : pressure_Spans.f k a0_0 a0_1 a0_2 l1 = some (r1, r2)) :
    Calls Try.prog 24 #[.agg #[.int .i64 a0_0, .int .i64 a0_1, .int .i64 a0_2], .slice A1 l1.length c1] w fun e w' => ∃ v0_ : Value, e = .returned (.tuple #[v0_, .int .i64 r2]) ∧ Kd.R k49 49 w' w.heap.size (fun _ => True) v0_ r1 ∧ Below w.heap.size w w' := by
  unfold pressure_Spans.f at h
  cases hx : pressure_Run.f k a0_0 a0_1 a0_2 l1 with
  | none => rw [hx] at h; simp at h
  | some q =>
    obtain ⟨bl, e2⟩ := q
    rw [hx] at h
    simp only [Option.bind_some] at h
    obtain ⟨t, hq, hz, hnz⟩ := pressure_Run_f hx
    have hask : ∀ w1, Below w.heap.size w w1 → Calls Try.prog 35 #[.agg #[.int .i64 a0_0, .int .i64 a0_1, .int .i64 a0_2], .slice A1 l1.length c1] w1 fun e w2 => e = .returned (.int .i64 t) ∧ Below w1.heap.size w1 w2 := fun w1 hw1 =>
      pressure_asked.calls k a0_0 a0_1 a0_2 A1 c1 l1 t w1 (Kd.C_below hr1 hw1) hc1 hq
    by_cases ht : t = 0
    · obtain ⟨rfl, rfl, hl⟩ := hz ht
      subst ht
      rw [if_pos rfl] at h
      obtain ⟨rfl, rfl⟩ := pressure_Spans_l0 a0_1 a0_2 l1 hl k 0 r1 r2 (Nat.zero_le _) h
      refine (spans_ok a0_0 a0_1 a0_2 A1 c1 l1 (by omega) w (ints_of hr1) hask).mono ?_
      rintro e w' ⟨v, rfl, hown, hb⟩
      exact ⟨v, rfl, spans_of hown, hb⟩
    · obtain ⟨rfl, rfl⟩ := hnz ht
      rw [if_neg ht] at h
      have := Option.some.inj h
      simp only [Prod.mk.injEq] at this
      obtain ⟨rfl, rfl⟩ := this
      refine (spans_err a0_0 a0_1 a0_2 A1 l1.length c1 e2 ht w hask).mono ?_
      rintro e w' ⟨rfl, hb⟩
      exact ⟨_, rfl, Kd.R_nil _ _ _ _ _, hb⟩
end Go.Proofs.Ytfjfmhkifaiakaa.PA
