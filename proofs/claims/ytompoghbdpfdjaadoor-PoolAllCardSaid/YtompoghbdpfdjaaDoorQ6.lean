/- Valid pools. Conditions: enough rounds. -/
import Derived.Test.YtompoghbdpfdjaaDoorQ0
import Derived.Test.YtompoghbdpfdjaaDoorPAx8
namespace Go.Proofs.YtompoghbdpfdjaaDoor.PA
open Go.RowKit Go.Proofs.YtompoghbdpfdjaaDoorW.PrintWords Go.Proofs.YtompoghbdpfdjaaDoorW.PrintLast Go.Proofs.YtompoghbdpfdjaaDoorW.PrintMore
set_option linter.unusedVariables false
set_option linter.unusedSimpArgs false

theorem sorted_ext : ∀ (l m : List Int), l.Pairwise (· < ·) → m.Pairwise (· < ·) → (∀ x, x ∈ l ↔ x ∈ m) → l = m := by
  intro l
  induction l with
  | nil => intro m _ _ h; cases m with
    | nil => rfl
    | cons y m => exact absurd ((h y).2 (List.mem_cons_self ..)) (by simp)
  | cons x l ih =>
    intro m hl hm h
    cases m with
    | nil => exact absurd ((h x).1 (List.mem_cons_self ..)) (by simp)
    | cons y m =>
      rw [List.pairwise_cons] at hl hm
      have e : x = y := by
        have h1 := (h x).1 (List.mem_cons_self ..)
        have h2 := (h y).2 (List.mem_cons_self ..)
        rcases List.mem_cons.1 h1 with h1 | h1
        · exact h1
        · rcases List.mem_cons.1 h2 with h2 | h2
          · exact h2.symm
          · have := hm.1 x h1; have := hl.1 y h2; omega
      subst e
      congr 1
      refine ih m hl.2 hm.2 (fun z => ⟨fun hz => ?_, fun hz => ?_⟩)
      · rcases List.mem_cons.1 ((h z).1 (List.mem_cons_of_mem _ hz)) with e | e
        · have := hl.1 z hz; omega
        · exact e
      · rcases List.mem_cons.1 ((h z).2 (List.mem_cons_of_mem _ hz)) with e | e
        · have := hm.1 z hz; omega
        · exact e
theorem flt_add (p : Int → Bool) : ∀ l : List Int, (l.filter p).length + (l.filter (fun x => !p x)).length = l.length := by
  intro l
  induction l with
  | nil => rfl
  | cons x l ih =>
    rw [List.filter_cons, List.filter_cons]
    cases p x <;> simp <;> omega
/-- a valid pool -/
def VL (sz : Int) (l : List Int) : Prop := 1 ≤ sz ∧ sz ≤ 32 ∧ (∀ x ∈ l, 0 ≤ x ∧ x < sz) ∧ l.Pairwise (· < ·)
theorem chkL_good (sz : Int) (l : List Int) (h : ∀ j, j < l.length → 0 ≤ l[j]?.getD 0 ∧ l[j]?.getD 0 < sz ∧ (0 < j → l[j - 1]?.getD 0 < l[j]?.getD 0)) : ∀ n i, i + n ≤ l.length → (chkL sz l n i).1 = 0 := by
  intro n
  induction n with
  | zero => intro i _; rfl
  | succ n ih =>
    intro i hi
    have hj := h i (by omega)
    rw [chkL, if_neg (by omega), if_neg (by omega)]
    exact ih (i + 1) (by omega)
theorem chk_VL {sz : Int} {l : List Int} : (chkE sz l).1 = 0 ↔ VL sz l := by
  constructor
  · intro h
    obtain ⟨h1, h2, H⟩ := chkE_ok h
    refine ⟨h1, h2, chkE_mem h, ?_⟩
    rw [List.pairwise_iff_getElem]
    intro i j hi hj hij
    have key : ∀ m, i + 1 + m < l.length → l[i]?.getD 0 < l[i + 1 + m]?.getD 0 := by
      intro m
      induction m with
      | zero => intro hm; have := (H (i + 1) hm).2.2 (by omega); simpa using this
      | succ m ih =>
        intro hm
        have a := ih (by omega)
        have b := (H (i + 1 + (m + 1)) hm).2.2 (by omega)
        rw [show i + 1 + (m + 1) - 1 = i + 1 + m by omega] at b
        omega
    have := key (j - (i + 1)) (by omega)
    rw [show i + 1 + (j - (i + 1)) = j by omega, List.getElem?_eq_getElem hi, List.getElem?_eq_getElem hj] at this
    exact this
  · rintro ⟨h1, h2, h3, h4⟩
    unfold chkE
    rw [if_neg (by omega)]
    refine chkL_good sz l (fun j hj => ?_) _ _ (by omega)
    rw [List.getElem?_eq_getElem hj]
    have := h3 _ (List.getElem_mem hj)
    refine ⟨this.1, this.2, fun h0 => ?_⟩
    rw [List.getElem?_eq_getElem (show j - 1 < l.length by omega)]
    exact (List.pairwise_iff_getElem.1 h4) (j - 1) j (by omega) hj (by omega)
theorem VL.len {sz : Int} {l : List Int} (h : VL sz l) : l.length ≤ 32 := (chkE_len (chk_VL.2 h)).2
theorem upto_sorted (n : Nat) : (upto n).Pairwise (· < ·) := by
  unfold upto
  rw [List.pairwise_map]
  exact List.Pairwise.imp (fun h => by omega) (List.pairwise_lt_range (n := n))
theorem upto_mem {n : Nat} {x : Int} : x ∈ upto n ↔ 0 ≤ x ∧ x < n := by
  unfold upto
  simp only [List.mem_map, List.mem_range]
  constructor
  · rintro ⟨i, hi, rfl⟩; omega
  · rintro ⟨h0, h1⟩; exact ⟨x.toNat, by omega, by omega⟩
theorem VL.filter {sz : Int} (h1 : 1 ≤ sz) (h2 : sz ≤ 32) (p : Int → Bool) : VL sz ((upto sz.toNat).filter p) :=
  ⟨h1, h2, fun x hx => by have := upto_mem.1 ((List.mem_filter.1 hx).1); omega, (upto_sorted _).filter _⟩
theorem VL.tail {sz x : Int} {t : List Int} (h : VL sz (x :: t)) : VL sz t := ⟨h.1, h.2.1, fun y hy => h.2.2.1 y (List.mem_cons_of_mem _ hy), (List.pairwise_cons.1 h.2.2.2).2⟩
theorem VL.eq_filter {sz : Int} {l : List Int} (h : VL sz l) (p : Int → Bool) (hp : ∀ x, 0 ≤ x → x < sz → (p x = true ↔ x ∈ l)) : (upto sz.toNat).filter p = l := by
  refine sorted_ext _ _ ((upto_sorted _).filter _) h.2.2.2 (fun x => ?_)
  rw [List.mem_filter, upto_mem]
  constructor
  · rintro ⟨⟨h0, h1⟩, h2⟩; exact (hp x h0 (by have := h.1; omega)).1 h2
  · intro hx
    have := h.2.2.1 x hx
    exact ⟨⟨this.1, by omega⟩, (hp x this.1 this.2).2 hx⟩
theorem VL.taken_len {sz : Int} {l : List Int} (h : VL sz l) : (((upto sz.toNat).filter (fun i => !decide (i ∈ l))).length : Int) = sz - l.length := by
  have a := flt_add (fun i => decide (i ∈ l)) (upto sz.toNat)
  have b := h.eq_filter (fun i => decide (i ∈ l)) (fun x _ _ => by simp)
  rw [b, upto_len] at a
  have := h.1
  omega
theorem ask_VL {sz : Int} {l : List Int} (h : VL sz l) (d : Int) (h0 : 0 ≤ d) (h1 : d < sz) : askE sz l d = 0 := by
  unfold askE
  rw [if_pos (chk_VL.2 h), if_neg (by omega)]
theorem give_VL (sz : Int) (l : List Int) (d : Int) (h : (givE sz l d).2.2 = 0) : (givE sz l d).1 = sz ∧ VL sz (givE sz l d).2.1 := by
  unfold givE at h ⊢
  by_cases a : askE sz l d = 0
  · rw [if_pos a] at h ⊢
    by_cases m : d ∈ l
    · rw [if_pos m] at h; exact absurd (show (7 : Int) = 0 from h) (by decide)
    · rw [if_neg m]
      have := chk_VL.1 (chk_of_ask a)
      exact ⟨rfl, VL.filter this.1 this.2.1 _⟩
  · rw [if_neg a] at h; exact absurd h a
theorem take_VL {sz : Int} {l : List Int} (hv : VL sz l) (h : (takE sz l).2.2.2 = 0) : (takE sz l).1 = sz ∧ VL sz (takE sz l).2.1 := by
  unfold takE at h ⊢
  rw [if_pos (chk_VL.2 hv)] at h ⊢
  cases l with
  | nil => exact absurd (show (5 : Int) = 0 from h) (by decide)
  | cons x t => exact ⟨rfl, hv.tail⟩
theorem wf_i {n : Int} (h : (Lit.int .i64 n).wf = true) : -9223372036854775808 ≤ n ∧ n ≤ 9223372036854775807 := by
  simp [Lit.wf, IntKind.min, IntKind.max, IntKind.signed, IntKind.bits] at h
  exact h
theorem mod_f (n m : Int) (n0 : -9223372036854775808 ≤ n) (n1 : n ≤ 9223372036854775807) (m0 : 1 ≤ m) (m1 : m ≤ 2000000) : ∃ r, headgatekit_Mod.f n m = some r ∧ 0 ≤ r ∧ r < m := by
  unfold headgatekit_Mod.f
  rw [if_neg (by omega), if_neg (by omega)]
  have hb : -m < Int.tmod n m := Int.lt_tmod_of_pos n (show 0 < m by omega)
  have hu : Int.tmod n m < m := Int.tmod_lt_of_pos n (show 0 < m by omega)
  by_cases h : Int.tmod n m < 0
  · rw [if_pos h]
    refine ⟨_, rfl, ?_⟩
    unfold wrap64
    omega
  · rw [if_neg h]
    exact ⟨_, rfl, by omega, hu⟩
end Go.Proofs.YtompoghbdpfdjaaDoor.PA
