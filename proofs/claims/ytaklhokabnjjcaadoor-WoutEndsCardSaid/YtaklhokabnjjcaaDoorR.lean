import Derived.Test.YtaklhokabnjjcaaDoorQ
namespace Go.Proofs.YtaklhokabnjjcaaDoor
open Go.RowKit
set_option linter.unusedVariables false
set_option linter.unusedSimpArgs false

theorem wf64 {n : Int} (h : (Lit.int .i64 n).wf = true) : -9223372036854775808 ≤ n ∧ n ≤ 9223372036854775807 := by
  simp [Lit.wf, IntKind.min, IntKind.max, IntKind.signed, IntKind.bits] at h
  exact h
theorem row_wf {w : World} {a : Option Addr} {len cap : Nat} {zs : List Int} (h : IsRow .i64 w a len cap zs) : ∀ x ∈ zs.take len, -9223372036854775808 ≤ x ∧ x ≤ 9223372036854775807 := by
  rcases h with ⟨rfl, rfl, rfl, rfl⟩ | ⟨x, rfl, hl, hm, hz, hc, hw⟩
  · simp
  · intro y hy
    have := hw y (List.mem_of_mem_take hy)
    exact wf64 this
theorem row_len {w : World} {a : Option Addr} {len cap : Nat} {zs : List Int} (h : IsRow .i64 w a len cap zs) : len ≤ 9223372036854775807 := by
  rcases h with ⟨rfl, rfl, rfl, rfl⟩ | ⟨x, rfl, hl, hm, hz, hc, hw⟩
  · omega
  · unfold maxLen at hm; omega

set_option maxHeartbeats 4000000 in
theorem one_walk (n : Int) (wn : (Lit.int .i64 n).wf = true) (a : Option Addr) (len cap : Nat) (z : List Int) (hcap : cap * 8 ≤ 140737488351232) (w : World) (hR : IsRow .i64 w a len cap z) (hG : GC w) :
    Calls Tryd.prog 7 #[.int .i64 n, .slice a len cap] w fun e w' => e = .returned (.bool true) ∧ Below w.heap.size w w' := by
  have HG := hid hG
  clear hG
  have HW := hid (row_wf hR)
  have hlen := row_len hR
  obtain ⟨hl, hRd⟩ := RdI.of_row hR
  generalize z.take len = xs at *
  subst hl
  clear hR
  have hn : -9223372036854775808 ≤ n ∧ n ≤ 9223372036854775807 := wf64 wn
  clear wn
  go_enter Tryd.func7, Tryd.ntmps7
  go_wp2_with fail
  refine (made_any n hn.1 hn.2 a cap xs hlen HW.out _ hRd).mono ?_
  rintro e w1 ⟨⟨s, r, c, rfl, hchk⟩, hb1⟩
  have hB := B3.new w1 s r c 23
  have hb2 := hb1.alloc hb1.size (.cells #[.int .i64 s, .int .i64 r, .int .i64 c] 23)
  have HC := hid hchk
  go_wp2_with fail
  refine (role_any _ _ _ _).mono ?_
  rintro e w2 ⟨rfl, hc⟩
  have hB2 := hB.below hc
  have hb3 := hb2.trans (hc.mono hb2.size)
  clear hc hB hb2
  generalize w1.heap.size = M at *
  rw [HC.out]
  have HB := hid hB2
  obtain ⟨c0, c1, c2, _, _, _⟩ := hB2
  go_wp2_with fail
  refine (slot_any _ _ _ _).mono ?_
  rintro e w3 ⟨rfl, hc⟩
  have hB3 := HB.out.below hc
  have hb4 := hb3.trans (hc.mono hb3.size)
  have hG4 := hid (HG.out.below hb4)
  clear hc hb3 c0 c1 c2 HB hb1
  rw [HC.out]
  obtain ⟨c0, c1, c2, _, _, _⟩ := hB3
  obtain ⟨s0, s1, r0, r1⟩ := chk_bounds hchk
  have hsx : s = 1 ∨ s = 2 ∨ s = 3 ∨ s = 4 ∨ (s = 5 ∧ r = 0) ∨ (s = 5 ∧ ¬ r = 0) ∨ s = 6 := by omega
  have hfin : ∀ (s' : Int), True := fun _ => trivial
  rcases hsx with rfl | rfl | rfl | rfl | ⟨rfl, rfl⟩ | ⟨rfl, hr⟩ | rfl
  · have e1 : roF 1 r c = 4 := by simp [roF, hchk]
    have e2 : slF 1 r c = true := by simp [slF, hchk]
    have e3 : slB 1 r c = false := by simp [slB, hchk]
    rw [e1, e2, e3]
    clear e1 e2 e3 hchk HC hfin
    go_wp2_with fail
    refine (awake_any _ hG4.out).mono ?_
    rintro e w5 ⟨rfl, hc⟩
    go_wp2_with fail
    go_ret
    exact ⟨rfl, hb4.trans (hc.mono hb4.size)⟩
  · have e1 : roF 2 r c = 5 := by simp [roF, hchk]
    have e2 : slF 2 r c = false := by simp [slF, hchk]
    have e3 : slB 2 r c = true := by simp [slB, hchk]
    rw [e1, e2, e3]
    clear e1 e2 e3 hchk HC hfin
    go_wp2_with fail
    refine (awake_any _ hG4.out).mono ?_
    rintro e w5 ⟨rfl, hc⟩
    go_wp2_with fail
    go_ret
    exact ⟨rfl, hb4.trans (hc.mono hb4.size)⟩
  · have e1 : roF 3 r c = 5 := by simp [roF, hchk]
    have e2 : slF 3 r c = false := by simp [slF, hchk]
    have e3 : slB 3 r c = true := by simp [slB, hchk]
    rw [e1, e2, e3]
    clear e1 e2 e3 hchk HC hfin
    go_wp2_with fail
    refine (awake_any _ hG4.out).mono ?_
    rintro e w5 ⟨rfl, hc⟩
    go_wp2_with fail
    go_ret
    exact ⟨rfl, hb4.trans (hc.mono hb4.size)⟩
  · have e1 : roF 4 r c = 0 := by simp [roF, hchk]
    have hr : 1 ≤ r := by
      unfold chk at hchk
      (repeat' split at hchk) <;> omega
    have e2 : slF 4 r c = false := by simp [slF, hchk] <;> omega
    have e3 : slB 4 r c = false := by simp [slB, hchk]
    rw [e1, e2, e3]
    clear e1 e2 e3 hchk HC hfin
    go_wp2_with fail
    refine (awake_any _ hG4.out).mono ?_
    rintro e w5 ⟨rfl, hc⟩
    go_wp2_with fail
    go_ret
    exact ⟨rfl, hb4.trans (hc.mono hb4.size)⟩
  · have e1 : roF 5 0 c = 4 := by simp [roF, hchk]
    have e2 : slF 5 0 c = true := by simp [slF, hchk]
    have e3 : slB 5 0 c = false := by simp [slB, hchk]
    rw [e1, e2, e3]
    clear e1 e2 e3 hchk HC hfin
    go_wp2_with fail
    refine (awake_any _ hG4.out).mono ?_
    rintro e w5 ⟨rfl, hc⟩
    go_wp2_with fail
    go_ret
    exact ⟨rfl, hb4.trans (hc.mono hb4.size)⟩
  · have e1 : roF 5 r c = 4 := by simp [roF, hchk]
    have e2 : slF 5 r c = false := by simp [slF, hchk] <;> omega
    have e3 : slB 5 r c = false := by simp [slB, hchk]
    rw [e1, e2, e3]
    clear e1 e2 e3 hchk HC hfin
    go_wp2_with fail
    refine (awake_any _ hG4.out).mono ?_
    rintro e w5 ⟨rfl, hc⟩
    go_wp2_with fail
    go_ret
    exact ⟨rfl, hb4.trans (hc.mono hb4.size)⟩
  · have e1 : roF 6 r c = 0 := by simp [roF, hchk]
    have hr : r = 0 := chk_gone hchk
    subst hr
    have e2 : slF 6 0 c = true := by simp [slF, hchk]
    have e3 : slB 6 0 c = false := by simp [slB, hchk]
    rw [e1, e2, e3]
    clear e1 e2 e3 hchk HC hfin
    go_wp2_with fail
    refine (awake_any _ hG4.out).mono ?_
    rintro e w5 ⟨rfl, hc⟩
    go_wp2_with fail
    go_ret
    exact ⟨rfl, hb4.trans (hc.mono hb4.size)⟩
end Go.Proofs.YtaklhokabnjjcaaDoor
