/- Small bridges between the printed words and the walks of the iterators; pressure.Run and pressure.Spans where the marks or a number are not valid. -/
import Derived.Test.YtfjfmhkifaiakaaM5
import Derived.Test.YtfjfmhkifaiakaaWMore
namespace Go.Proofs.Ytfjfmhkifaiakaa
open Go.RowKit Go.Shelf Go.Proofs.YtfjfmhkifaiakaaW.PrintWords
set_option linter.unusedVariables false
set_option linter.unusedSimpArgs false

theorem ints_of {w : World} {A : Option Addr} {l : List Int} (h : Kd.C (Kd.int .i64) w A l.length l) : IntsB w.heap.size w A l := by
  by_cases h0 : l = []
  · exact .inl h0
  · have hp : 0 < l.length := List.length_pos_iff.2 h0
    obtain ⟨ad, e, hc⟩ := h.2.2 hp
    have hcell : ∀ j (hj : j < l.length), w.cell? (ad.add j) = some (.int .i64 (l[j]?.getD 0)) := by
      intro j hj
      obtain ⟨c, hs, hr, hx⟩ := hc j l[j] (List.getElem?_eq_getElem hj)
      have hcs : c = [.int .i64 l[j]] := hr
      subst hcs
      have := hx 0 (.int .i64 l[j]) rfl
      rw [List.getElem?_eq_getElem hj]
      simpa [Kd.int, Kd.scalar] using this
    obtain ⟨b, off, spot⟩ := ad
    have c0 := hcell 0 hp
    have hspot : spot = none := by simpa [Addr.add] using World.cell?_spot c0
    subst hspot
    refine .inr ⟨b, off, e, ?_, fun j hj => ?_⟩
    · have := World.block_lt_of_cell? w _ c0
      simpa [Addr.add] using this
    · have hadd : (⟨b, off, none⟩ : Addr).add j = ⟨b, off + j, none⟩ := by unfold Addr.add; split <;> simp_all
      rw [← hadd]; exact hcell j hj

theorem reps_flat {α : Type} (enc : α → Value) (h1 : ∀ x, (enc x).oneCell' = true) (w : World) (base : Nat) (ok : Nat → Prop) (l : List α) : Reps ((Kd.scalar enc h1).M w base ok) 1 l (l.map enc) := by
  refine ⟨by simp, fun j p hj => ?_⟩
  show ((l.map enc).drop (j * 1)).take 1 = [enc p]
  obtain ⟨hj', rfl⟩ := List.getElem?_eq_some_iff.1 hj
  rw [Nat.mul_one, List.drop_eq_getElem_cons (by simpa using hj')]
  simp

theorem bools_of {w : World} {base : Nat} {v : Value} {l : List Bool} (h : w.ownsRow base 4 1 v l.length (l.map Value.bool)) : Kd.R Kd.bool 4 w base (fun _ => True) v l :=
  ⟨fun _ _ => trivial, l.map Value.bool, h, reps_flat _ _ _ _ _ _⟩

theorem next_eq (md hi : Int) (a : Bool) (fr : Int) (t : Bool) (h : (if fr < md then some true else if a = true then some (decide (fr < hi)) else some false) = some t) : awN md hi a fr = t := by
  unfold awN
  split at h
  · rename_i h1; simp [h1] at h ⊢; exact h
  · rename_i h1
    split at h
    · rename_i h2; simp [h1, h2] at h ⊢; exact h
    · rename_i h2; simp [h1, h2] at h ⊢; exact h

set_option maxRecDepth 100000 in
set_option maxHeartbeats 1000000 in
theorem run_err (lo md hi : Int) (A : Option Addr) (n cap : Nat) (er : Int) (her : er ≠ 0) (w : World)
    (hask : ∀ w1, Below w.heap.size w w1 → Calls Try.prog 35 #[.agg #[.int .i64 lo, .int .i64 md, .int .i64 hi], .slice A n cap] w1 fun e w2 => e = .returned (.int .i64 er) ∧ Below w1.heap.size w1 w2) :
    Calls Try.prog 21 #[.agg #[.int .i64 lo, .int .i64 md, .int .i64 hi], .slice A n cap] w fun e W' => e = .returned (.tuple #[.slice none 0 0, .int .i64 er]) ∧ Below w.heap.size w W' := by
  have hb0 := (Below.refl w.heap.size w).alloc (Nat.le_refl _) (.cells #[.int .i64 lo, .int .i64 md, .int .i64 hi] 23)
  have HASK := hid (hask _ hb0)
  have e1 : (er != 0) = true := by simp [her]
  clear hask her
  refine (callsIn_wide (n := 4)).1 ?_
  refine callsIn_of_wp_marks Try.func21 rfl trivial ?_ rfl
  simp only [Try.ntmps21, List.size_toArray, List.length_cons, List.length_nil, Nat.reduceAdd, Nat.reduceSub, Array.replicate_succ, Array.replicate_zero, List.push_toArray, List.append_toArray, List.nil_append, List.cons_append]
  gi_wp2_with (refine ⟨trivial, ?_⟩; gi_at_call 35; refine (callsIn_wide.2 HASK.out).mono ?_; rintro e w2 ⟨rfl, hb2⟩)
  exact ⟨_, results_tmp2 rfl _ _ _, rfl, hb0.trans (hb2.mono hb0.size)⟩

set_option maxRecDepth 100000 in
set_option maxHeartbeats 1000000 in
theorem spans_err (lo md hi : Int) (A : Option Addr) (n cap : Nat) (er : Int) (her : er ≠ 0) (w : World)
    (hask : ∀ w1, Below w.heap.size w w1 → Calls Try.prog 35 #[.agg #[.int .i64 lo, .int .i64 md, .int .i64 hi], .slice A n cap] w1 fun e w2 => e = .returned (.int .i64 er) ∧ Below w1.heap.size w1 w2) :
    Calls Try.prog 24 #[.agg #[.int .i64 lo, .int .i64 md, .int .i64 hi], .slice A n cap] w fun e W' => e = .returned (.tuple #[.slice none 0 0, .int .i64 er]) ∧ Below w.heap.size w W' := by
  have hb0 := (Below.refl w.heap.size w).alloc (Nat.le_refl _) (.cells #[.int .i64 lo, .int .i64 md, .int .i64 hi] 23)
  have HASK := hid (hask _ hb0)
  have e1 : (er != 0) = true := by simp [her]
  clear hask her
  refine (callsIn_wide (n := 4)).1 ?_
  refine callsIn_of_wp_marks Try.func24 rfl trivial ?_ rfl
  simp only [Try.ntmps24, List.size_toArray, List.length_cons, List.length_nil, Nat.reduceAdd, Nat.reduceSub, Array.replicate_succ, Array.replicate_zero, List.push_toArray, List.append_toArray, List.nil_append, List.cons_append]
  gi_wp2_with (refine ⟨trivial, ?_⟩; gi_at_call 35; refine (callsIn_wide.2 HASK.out).mono ?_; rintro e w2 ⟨rfl, hb2⟩)
  exact ⟨_, results_tmp2 rfl _ _ _, rfl, hb0.trans (hb2.mono hb0.size)⟩

end Go.Proofs.Ytfjfmhkifaiakaa
