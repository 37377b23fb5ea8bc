-- written by a program of this seat's prover out of the translation; Lean checks it
import Derived.Test.YtompoghbdpfdjaaDoorM10
import Derived.Test.YtompoghbdpfdjaaDoorPAx0
import Derived.Test.YtompoghbdpfdjaaDoorPAx2
import Derived.Test.YtompoghbdpfdjaaDoorPAx3
namespace Go.Proofs.YtompoghbdpfdjaaDoor.PA
open Go.RowKit Go.Proofs.YtompoghbdpfdjaaDoorW.PrintWords Go.Proofs.YtompoghbdpfdjaaDoorW.PrintLast Go.Proofs.YtompoghbdpfdjaaDoorW.PrintMore
attribute [local go_sem] max2_int min2_int max_two min_two max_three min_three max_four min_four   -- for this text's walks alone
set_option linter.unusedVariables false
set_option linter.unusedSimpArgs false

/-! ### pool_Give: function 20 -/
def pool_Give.f (k : Nat) (a0_0 : Int) (l0_1 : List Int) (a1 : Int) : Option (Int × List Int × Int) := onE l0_1 (givE a0_0 l0_1 a1)
theorem pool_Give.mono : ∀ a0 a1 a2 k, LeO (pool_Give.f k a0 a1 a2) (pool_Give.f (k + 1) a0 a1 a2) := by
  intro a0 a1 a2 k
  unfold pool_Give.f
  repeat' first
      | (with_reducible exact headgateref14_asked.mono _ _ _ _)
      | (with_reducible exact headgateref14_free.mono _ _ _ _)
      | (with_reducible exact LeO.refl _)
      | (with_reducible exact LeO.none _)
      | (with_reducible refine LeO.ite ?_ ?_)
      | (with_reducible refine LeO.bind ?_ (fun _ => ?_))
      | exact headgateref14_asked.mono _ _ _ _
      | exact headgateref14_free.mono _ _ _ _
      | exact LeO.none _
      | refine LeO.ite ?_ ?_
      | refine LeO.bind ?_ (fun _ => ?_)
set_option maxHeartbeats 8000000 in
set_option maxRecDepth 100000 in
theorem pool_Give.calls (k : Nat) (a0_0 : Int) (A0_1 : Option Addr) (c0_1 : Nat) (l0_1 : List Int) (a1 : Int) (r1 : Int) (r2 : List Int) (r3 : Int) (w : World) (hr0_1 : Kd.C (Kd.int .i64) w A0_1 l0_1.length l0_1) (hc0_1 : l0_1.length ≤ c0_1) (h : pool_Give.f k a0_0 l0_1 a1 = some (r1, r2, r3)) (gc0 : GC w) :
    Calls Tryd.prog 20 #[.agg #[.int .i64 a0_0, .slice A0_1 l0_1.length c0_1], .int .i64 a1] w fun e w' => ∃ v1_ : Value, e = .returned (.tuple #[.agg #[.int .i64 r1, v1_], .int .i64 r3]) ∧ Kd.R (Kd.int .i64) 3 w' w.heap.size (fun _ => True) v1_ r2 ∧ Below w.heap.size w w' := by
  have HG := Aside0.mk gc0
  clear gc0
  obtain ⟨hl, hq⟩ := onE_some h
  unfold givE at hq
  by_cases c : askE a0_0 l0_1 a1 = 0
  · rw [if_pos c] at hq
    have c1 : (chkE a0_0 l0_1).1 = 0 := by
      unfold askE at c
      by_cases z : (chkE a0_0 l0_1).1 = 0
      · exact z
      · rw [if_neg z] at c; exact absurd c z
    have c2 : 0 ≤ a1 ∧ a1 < a0_0 := by
      unfold askE at c
      rw [if_pos c1] at c
      by_cases z : a1 < 0 ∨ a0_0 ≤ a1
      · rw [if_pos z] at c; exact absurd c (by decide)
      · omega
    obtain ⟨d, rfl⟩ : ∃ d : Nat, a1 = (d : Int) := ⟨a1.toNat, by omega⟩
    by_cases m : (d : Int) ∈ l0_1
    · rw [if_pos m] at hq
      simp only [Prod.mk.injEq] at hq
      obtain ⟨rfl, rfl, rfl⟩ := hq
      refine (give_has a0_0 A0_1 c0_1 l0_1 d w hr0_1 hc0_1 c1 m).mono ?_
      rintro e w' ⟨rfl, hb⟩
      exact ⟨_, rfl, Kd.R_nil _ _ _ _ _, hb⟩
    · rw [if_neg m] at hq
      simp only [Prod.mk.injEq] at hq
      obtain ⟨h1, h2, h3⟩ := hq
      subst h1 h2 h3
      refine (give_good a0_0 A0_1 c0_1 l0_1 d w HG.out hr0_1 hc0_1 c1 c2.2 m).mono ?_
      rintro e w' ⟨v, rfl, ho, hb⟩
      exact ⟨v, rfl, ho, hb⟩
  · rw [if_neg c] at hq
    simp only [Prod.mk.injEq] at hq
    obtain ⟨h1, h2, h3⟩ := hq
    subst h1 h2 h3
    refine (give_bad a0_0 A0_1 c0_1 l0_1 a1 w hr0_1 hc0_1 hl c).mono ?_
    rintro e w' ⟨rfl, hb⟩
    exact ⟨_, rfl, Kd.R_nil _ _ _ _ _, hb⟩
end Go.Proofs.YtompoghbdpfdjaaDoor.PA
