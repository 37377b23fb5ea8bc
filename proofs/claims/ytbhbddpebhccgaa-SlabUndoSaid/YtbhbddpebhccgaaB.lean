import Derived.Test.YtbhbddpebhccgaaA
namespace Go.Proofs.Ytbhbddpebhccgaa
open Go.RowKit

/-- slab.Alloc. -/
theorem alloc_any (f u : Int) (u0 : 0 ≤ u) (u1 : u ≤ 255) (w : World) :
    Calls Try.prog 11 #[.agg #[.int .i64 f, .int .u8 u]] w fun e w' => e = .returned (.tuple #[.agg #[.int .i64 (aF f u), .int .u8 (aU f u)], .int .i64 (aO f u), .int .i64 (aE f u)]) ∧ Below w.heap.size w w' := by
  by_cases hb : badF f
  · obtain ⟨e1, e2, e3, e4⟩ := a_bad (u := u) hb
    rw [e1, e2, e3, e4]; clear e1 e2 e3 e4
    rcases hb with hb | hb
    all_goals
      try have hx : 0 ≤ f := by omega
      go_enter Try.func11, Try.ntmps11
      go_wp2_with fail
      go_in
      go_wp2_with fail
      refine bodyPost_ret (v := .tuple #[.agg #[.int .i64 0, .int .u8 0], .int .i64 0, .int .i64 2]) (by simp [results, Try.results11, go_sem]) rfl ⟨rfl, ?_⟩
      repeat (first | exact Below.refl _ _ | refine Below.alloc ?_ (by simp <;> omega) _ | refine Below.drew ?_)
  by_cases hu : u = 255
  · obtain ⟨e1, e2, e3, e4⟩ := a_full hb hu
    rw [e1, e2, e3, e4]; clear e1 e2 e3 e4
    subst hu
    unfold badF at hb
    have h0 : 0 ≤ f := by omega
    have h1 : f < 256 := by omega
    clear hb
    go_enter Try.func11, Try.ntmps11
    go_wp2_with fail
    go_in
    go_wp2_with fail
    go_in
    go_wp2_with fail
    refine bodyPost_ret (v := .tuple #[.agg #[.int .i64 0, .int .u8 0], .int .i64 0, .int .i64 5]) (by simp [results, Try.results11, go_sem]) rfl ⟨rfl, ?_⟩
    repeat (first | exact Below.refl _ _ | refine Below.alloc ?_ (by simp <;> omega) _ | refine Below.drew ?_)
  obtain ⟨e1, e2, e3, e4⟩ := a_ok hb hu
  rw [e1, e2, e3, e4]; clear e1 e2 e3 e4
  unfold badF at hb
  have h0 : 0 ≤ f := by omega
  have h1 : f < 256 := by omega
  have t1 : tz u ≤ 7 := tz_le u u0 (by omega)
  have t0 : 0 ≤ tz u := by unfold tz; omega
  have hx := not_u8 u u0 (by omega)
  have HX : Hid (Go.bits .xor .u8 IntKind.u8.max u = 255 - u) := hx
  have e0 : (u == 255) = false := by simp [hu]
  clear hb hu hx
  by_cases eu : u = 0
  · subst eu
    go_enter Try.func11, Try.ntmps11
    go_wp2_with fail
    go_in
    go_wp2_with fail
    go_in
    go_wp2_with fail
    refine (tz_any _ 0 (by first | omega | decide) (by first | omega | decide) (by first | omega | decide) _).mono ?_
    rintro e w' ⟨rfl, rfl⟩
    go_wp2_with fail
    go_region
    go_wp2_with fail
    go_region
    go_wp2_with fail
    refine bodyPost_ret (v := .tuple #[.agg #[.int .i64 f, .int .u8 (au 0)], .int .i64 (8 * f + tz 0), .int .i64 0]) (by simp [results, Try.results11, go_sem, au]) rfl ⟨rfl, ?_⟩
    repeat (first | exact Below.refl _ _ | refine Below.alloc ?_ (by simp <;> omega) _ | refine Below.drew ?_)
  have e1 : (u == 0) = false := by simp [eu]
  clear eu
  go_enter Try.func11, Try.ntmps11
  go_wp2_with fail
  go_in
  go_wp2_with fail
  go_in
  go_wp2_with fail
  refine (tz_any _ u (by rw [HX.out]; omega) (by rw [HX.out]; omega) HX.out _).mono ?_
  rintro e w' ⟨rfl, rfl⟩
  go_wp2_with fail
  go_region
  go_wp2_with fail
  go_region
  go_wp2_with fail
  refine bodyPost_ret (v := .tuple #[.agg #[.int .i64 f, .int .u8 (au u)], .int .i64 (8 * f + tz u), .int .i64 0]) (by simp [results, Try.results11, go_sem, au]) rfl ⟨rfl, ?_⟩
  repeat (first | exact Below.refl _ _ | refine Below.alloc ?_ (by simp <;> omega) _ | refine Below.drew ?_)

def okF (f u o : Int) : Prop := ¬ badF f ∧ 0 ≤ o ∧ o < 2048 ∧ o / 8 = f ∧ bitB u (o % 8) = true
instance (f u o : Int) : Decidable (okF f u o) := by unfold okF; exact inferInstance
def rF (f u o : Int) : Int := if okF f u o then f else 0
def rU (f u o : Int) : Int := if okF f u o then fu u (o % 8) else 0
def rE (f u o : Int) : Int := if badF f then 2 else if o < 0 ∨ 2048 ≤ o then 2 else if okF f u o then 0 else 6
theorem r_ok {f u o : Int} (h : okF f u o) : rF f u o = f ∧ rU f u o = fu u (o % 8) ∧ rE f u o = 0 := by
  refine ⟨by simp [rF, h], by simp [rU, h], ?_⟩
  have h' := h
  unfold okF at h'
  unfold rE
  rw [if_neg h'.1, if_neg (by omega), if_pos h]
theorem r_no {f u o : Int} (h : ¬ okF f u o) : rF f u o = 0 ∧ rU f u o = 0 := ⟨by simp [rF, h], by simp [rU, h]⟩
theorem r_bad {f u o : Int} (h : badF f) : rF f u o = 0 ∧ rU f u o = 0 ∧ rE f u o = 2 := by
  have hn : ¬ okF f u o := by unfold okF; simp [h]
  exact ⟨(r_no hn).1, (r_no hn).2, by simp [rE, h]⟩
theorem r_range {f u o : Int} (hf : ¬ badF f) (h : o < 0 ∨ 2048 ≤ o) : rF f u o = 0 ∧ rU f u o = 0 ∧ rE f u o = 2 := by
  have hn : ¬ okF f u o := by unfold okF; omega
  exact ⟨(r_no hn).1, (r_no hn).2, by unfold rE; rw [if_neg hf, if_pos h]⟩
theorem r_miss {f u o : Int} (hf : ¬ badF f) (h : 0 ≤ o ∧ o < 2048) (hm : o / 8 ≠ f ∨ bitB u (o % 8) = false) : rF f u o = 0 ∧ rU f u o = 0 ∧ rE f u o = 6 := by
  have hn : ¬ okF f u o := by
    unfold okF
    intro ⟨_, _, _, h1, h2⟩
    rcases hm with hm | hm
    · exact hm h1
    · rw [hm] at h2; cases h2
  exact ⟨(r_no hn).1, (r_no hn).2, by unfold rE; rw [if_neg hf, if_neg (by omega), if_neg hn]⟩

/-- slab.Free. -/
theorem free_any (f u o : Int) (u0 : 0 ≤ u) (u1 : u ≤ 255) (w : World) :
    Calls Try.prog 20 #[.agg #[.int .i64 f, .int .u8 u], .int .i64 o] w fun e w' => e = .returned (.tuple #[.agg #[.int .i64 (rF f u o), .int .u8 (rU f u o)], .int .i64 (rE f u o)]) ∧ Below w.heap.size w w' := by
  by_cases hb : badF f
  · obtain ⟨e1, e2, e3⟩ := r_bad (u := u) (o := o) hb
    rw [e1, e2, e3]; clear e1 e2 e3
    rcases hb with hb | hb
    all_goals
      try have hx : 0 ≤ f := by omega
      go_enter Try.func20, Try.ntmps20
      go_wp2_with fail
      go_in
      go_wp2_with fail
      refine bodyPost_ret (v := .tuple #[.agg #[.int .i64 0, .int .u8 0], .int .i64 2]) (by simp [results, Try.results20, go_sem]) rfl ⟨rfl, ?_⟩
      repeat (first | exact Below.refl _ _ | refine Below.alloc ?_ (by simp <;> omega) _ | refine Below.drew ?_)
  by_cases ho : o < 0 ∨ 2048 ≤ o
  · obtain ⟨e1, e2, e3⟩ := r_range (u := u) hb ho
    rw [e1, e2, e3]; clear e1 e2 e3
    unfold badF at hb
    have h0 : 0 ≤ f := by omega
    have h1 : f < 256 := by omega
    clear hb
    go_enter Try.func20, Try.ntmps20
    go_wp2_with fail
    go_in
    go_wp2_with fail
    refine (split_no o ho _).mono ?_
    rintro e w' ⟨rfl, rfl⟩
    go_wp2_with fail
    refine bodyPost_ret (v := .tuple #[.agg #[.int .i64 0, .int .u8 0], .int .i64 2]) (by simp [results, Try.results20, go_sem]) rfl ⟨rfl, ?_⟩
    repeat (first | exact Below.refl _ _ | refine Below.alloc ?_ (by simp <;> omega) _ | refine Below.drew ?_)
  have o2 : 0 ≤ o := by omega
  have o3 : o < 2048 := by omega
  clear ho
  by_cases hf : o / 8 = f
  · have hfa := facts_of u (o % 8) u0 u1 (by omega) (by omega)
    have hbit : (Go.bits .and .u8 (u / 2 ^ (o % 8).toNat) 1 == 0) = !bitB u (o % 8) := by
      simp only [facts, Bool.and_eq_true, beq_iff_eq] at hfa
      exact hfa.1.1.1.1.1.1.1
    clear hfa
    have q2 : (o / 8 != f) = false := by rw [hf]; simp
    by_cases hs : bitB u (o % 8) = true
    · obtain ⟨e1, e2, e3⟩ := r_ok (f := f) (u := u) (o := o) ⟨hb, o2, o3, hf, hs⟩
      rw [e1, e2, e3]; clear e1 e2 e3
      rw [hs] at hbit
      unfold badF at hb
      have h0 : 0 ≤ f := by omega
      have h1 : f < 256 := by omega
      clear hb hf hs
      go_enter Try.func20, Try.ntmps20
      go_wp2_with fail
      go_in
      go_wp2_with fail
      refine (split_ok o o2 o3 _).mono ?_
      rintro e w' ⟨rfl, rfl⟩
      go_wp2_with fail
      go_region
      go_wp2_with fail
      refine bodyPost_ret (v := .tuple #[.agg #[.int .i64 f, .int .u8 (fu u (o % 8))], .int .i64 0]) (by simp [results, Try.results20, go_sem, fu]) rfl ⟨rfl, ?_⟩
      repeat (first | exact Below.refl _ _ | refine Below.alloc ?_ (by simp <;> omega) _ | refine Below.drew ?_)
    · have hs' : bitB u (o % 8) = false := by simpa using hs
      obtain ⟨e1, e2, e3⟩ := r_miss (f := f) (u := u) (o := o) hb ⟨o2, o3⟩ (Or.inr hs')
      rw [e1, e2, e3]; clear e1 e2 e3
      rw [hs'] at hbit
      unfold badF at hb
      have h0 : 0 ≤ f := by omega
      have h1 : f < 256 := by omega
      clear hb hf hs hs'
      go_enter Try.func20, Try.ntmps20
      go_wp2_with fail
      go_in
      go_wp2_with fail
      refine (split_ok o o2 o3 _).mono ?_
      rintro e w' ⟨rfl, rfl⟩
      go_wp2_with fail
      refine bodyPost_ret (v := .tuple #[.agg #[.int .i64 0, .int .u8 0], .int .i64 6]) (by simp [results, Try.results20, go_sem]) rfl ⟨rfl, ?_⟩
      repeat (first | exact Below.refl _ _ | refine Below.alloc ?_ (by simp <;> omega) _ | refine Below.drew ?_)
  · obtain ⟨e1, e2, e3⟩ := r_miss (f := f) (u := u) (o := o) hb ⟨o2, o3⟩ (Or.inl hf)
    rw [e1, e2, e3]; clear e1 e2 e3
    have q2 : (o / 8 != f) = true := by simp [hf]
    unfold badF at hb
    have h0 : 0 ≤ f := by omega
    have h1 : f < 256 := by omega
    clear hb hf
    go_enter Try.func20, Try.ntmps20
    go_wp2_with fail
    go_in
    go_wp2_with fail
    refine (split_ok o o2 o3 _).mono ?_
    rintro e w' ⟨rfl, rfl⟩
    go_wp2_with fail
    refine bodyPost_ret (v := .tuple #[.agg #[.int .i64 0, .int .u8 0], .int .i64 6]) (by simp [results, Try.results20, go_sem]) rfl ⟨rfl, ?_⟩
    repeat (first | exact Below.refl _ _ | refine Below.alloc ?_ (by simp <;> omega) _ | refine Below.drew ?_)
end Go.Proofs.Ytbhbddpebhccgaa
