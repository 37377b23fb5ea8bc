/- The contract of pool.Home. Conditions: the free descriptors' cells; at most 1000 of them. -/
import Derived.Test.YtompoghbdpfdjaaDoorM7
namespace Go.Proofs.YtompoghbdpfdjaaDoor
open Go.RowKit Go.Conc Go.Proofs.YtompoghbdpfdjaaDoorW.PrintWords Go.Proofs.YtompoghbdpfdjaaDoorW.PrintLast Go.Proofs.YtompoghbdpfdjaaDoorW.PrintMore
set_option linter.unusedVariables false
set_option linter.unusedSimpArgs false

theorem one_box (w : World) (cs : Array Value) (t : TypeId) : (w.alloc (.cells cs t)).heap[w.heap.size]? = some (.cells cs t (0, 0)) := heap_alloc_new w _
theorem home_any (sz : Int) (A : Option Addr) (c : Nat) (l : List Int) (d : Int) (w : World) (hr : Kd.C (Kd.int .i64) w A l.length l) (hc : l.length ≤ c) (hl : l.length ≤ 1000) :
    Calls Tryd.prog 26 #[.agg #[.int .i64 sz, .slice A l.length c], .int .i64 d] w fun e w' => e = .returned (.tuple #[.int .i64 (homE sz l d).1, .int .i64 (homE sz l d).2.1, .int .i64 (homE sz l d).2.2]) ∧ Below w.heap.size w w' := by
  have hk := PA.pchk sz l hl (2 * l.length + 2) (Nat.le_refl _)
  have hC := Kd.C_alloc hr (.cells #[.int .i64 sz, .slice A l.length c] 24)
  have B0 := one_box w #[.int .i64 sz, .slice A l.length c] 24
  obtain ⟨e, i, hq⟩ : ∃ e i, chkE sz l = (e, i) := ⟨_, _, rfl⟩
  rw [hq] at hk
  have HQ := Lib.hid hq
  have HK := Lib.hid hk
  have HB0 := Lib.hid B0
  clear hk hq B0 hr
  by_cases he : e = 0
  · subst he
    have hs' : sz ≤ 32 := (chkE_ok (by rw [HQ.out])).2.1
    by_cases h0 : d < 0
    · have a2 : askE sz l d = 2 := by unfold askE; rw [HQ.out]; simp [h0]
      have hh : homE sz l d = (0, 0, 2) := by unfold homE; rw [a2]; rfl
      rw [hh]
      clear hh a2
      go_enter Tryd.func26, Tryd.ntmps26
      go_wp2_with (go_at_call 16; refine (PA.pool_Check.calls _ sz A c l 0 i _ hC hc HK.out).mono ?_; rintro e w1 ⟨rfl, hb⟩; have BK1 := (hb.block w.heap.size (by simp)).trans HB0.out; have hp0 : w1.cell? ⟨w.heap.size, 0, none⟩ = some (.int .i64 sz) := (blk_cell BK1 0).trans rfl; clear BK1)
      go_ret3
      exact ⟨rfl, ((Below.refl _ _).alloc (Nat.le_refl _) _).trans (hb.mono (by simp))⟩
    · by_cases h1 : sz ≤ d
      · have a2 : askE sz l d = 2 := by unfold askE; rw [HQ.out]; simp [h1]
        have hh : homE sz l d = (0, 0, 2) := by unfold homE; rw [a2]; rfl
        rw [hh]
        clear hh a2
        go_enter Tryd.func26, Tryd.ntmps26
        go_wp2_with (go_at_call 16; refine (PA.pool_Check.calls _ sz A c l 0 i _ hC hc HK.out).mono ?_; rintro e w1 ⟨rfl, hb⟩; have BK1 := (hb.block w.heap.size (by simp)).trans HB0.out; have hp0 : w1.cell? ⟨w.heap.size, 0, none⟩ = some (.int .i64 sz) := (blk_cell BK1 0).trans rfl; clear BK1)
        go_ret3
        exact ⟨rfl, ((Below.refl _ _).alloc (Nat.le_refl _) _).trans (hb.mono (by simp))⟩
      · have h2 : 0 ≤ d := by omega
        have h3 : d ≤ 1000 := by omega
        have h4 : ¬ sz ≤ d := h1
        have a2 : askE sz l d = 0 := by unfold askE; rw [HQ.out, if_pos rfl, if_neg (by omega)]
        have hh : homE sz l d = (d / 8, d % 8, 0) := by unfold homE; rw [a2]; rfl
        rw [hh]
        clear hh a2
        go_enter Tryd.func26, Tryd.ntmps26
        go_wp2_with (first
          | (go_at_call 16; refine (PA.pool_Check.calls _ sz A c l 0 i _ hC hc HK.out).mono ?_; rintro e w1 ⟨rfl, hb⟩; have BK1 := (hb.block w.heap.size (by simp)).trans HB0.out; have hp0 : w1.cell? ⟨w.heap.size, 0, none⟩ = some (.int .i64 sz) := (blk_cell BK1 0).trans rfl; clear BK1)
          | (go_at_call 35; refine (of_any d h2 h3 0 0 _).mono ?_; rintro e w2 ⟨rfl, hb2⟩))
        have hbw : Below w.heap.size w w2 := (((Below.refl _ _).alloc (Nat.le_refl _) _).trans (hb.mono (by simp))).trans (hb2.mono (by have := hb.size; simp at this; omega))
        have hzz : w.heap.size ≤ w2.heap.size := hbw.size
        clear HB0 HQ HK hb hp0 hC
        go_quiet (fail)
        go_wp2
        go_ret3
        exact ⟨rfl, pw_below_drewN (hbw.alloc hzz _) nq⟩
  · have a2 : askE sz l d = e := by unfold askE; rw [HQ.out, if_neg he]
    have hh : homE sz l d = (0, 0, e) := by unfold homE; rw [a2, if_neg he]
    rw [hh]
    clear hh a2
    have he2 : ((e : Int) != 0) = true := by simp; exact he
    go_enter Tryd.func26, Tryd.ntmps26
    go_wp2_with (go_at_call 16; refine (PA.pool_Check.calls _ sz A c l e i _ hC hc HK.out).mono ?_; rintro e w1 ⟨rfl, hb⟩)
    go_ret3
    exact ⟨rfl, ((Below.refl _ _).alloc (Nat.le_refl _) _).trans (hb.mono (by simp))⟩
end Go.Proofs.YtompoghbdpfdjaaDoor
