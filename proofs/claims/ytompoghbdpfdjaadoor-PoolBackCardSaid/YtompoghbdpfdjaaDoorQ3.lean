/- The plain law PoolBack. Conditions: enough rounds. -/
import Derived.Test.YtompoghbdpfdjaaDoorQ6
import Derived.Test.YtompoghbdpfdjaaDoorPAx10
namespace Go.Proofs.YtompoghbdpfdjaaDoor.PA
open Go.RowKit Go.Proofs.YtompoghbdpfdjaaDoorW.PrintWords Go.Proofs.YtompoghbdpfdjaaDoorW.PrintLast Go.Proofs.YtompoghbdpfdjaaDoorW.PrintMore
set_option linter.unusedVariables false
set_option linter.unusedSimpArgs false

theorem made_end (x0 : Int) (x1 : List Int) (i : Int) (sz r : Int) (l : List Int) (hv : VL sz l) (hr : headgatekit_Mod.f x0 32 = some r) (hs : sz = wrap64 (1 + r)) (k : Nat) (hk : 70 ≤ k) :
    headgatelaw14_made.j2 (k + 1) x0 x1 0 i false sz l = some (sz, l, true) := by
  rw [headgatelaw14_made.j2, if_neg (by decide)]
  have hl := hv.len
  refine bind_eq (pchk sz l (by omega) k (by omega)) ?_
  refine ite_eq rfl (ite_eq (chk_VL.2 hv) ?_)
  refine bind_eq hr ?_
  rw [hs]
  simp
theorem made_l0 (x0 : Int) (x1 : List Int) (hx : ∀ x ∈ x1, (Lit.int .i64 x).wf = true) (sz r : Int) (hr : headgatekit_Mod.f x0 32 = some r) (hs : sz = wrap64 (1 + r)) : ∀ (n j k : Nat) (l : List Int), j + n = 60 → VL sz l → 2 * n + 72 ≤ k →
    ∃ l', headgatelaw14_made.l0 k x0 x1 0 (j : Int) sz l = some (sz, l', true) ∧ VL sz l' := by
  intro n
  induction n with
  | zero =>
    intro j k l hj hv hk
    obtain ⟨k, rfl⟩ : ∃ m, k = m + 1 + 1 := ⟨k - 2, by omega⟩
    refine ⟨l, ?_, hv⟩
    rw [headgatelaw14_made.l0]
    by_cases c : (j : Int) < (x1.length : Int)
    · rw [if_pos c, if_neg (by omega)]
      exact made_end x0 x1 j sz r l hv hr hs k (by omega)
    · rw [if_neg c]
      exact made_end x0 x1 j sz r l hv hr hs k (by omega)
  | succ n ih =>
    intro j k l hj hv hk
    obtain ⟨k, rfl⟩ : ∃ m, k = m + 1 + 1 := ⟨k - 2, by omega⟩
    rw [headgatelaw14_made.l0]
    by_cases c : (j : Int) < (x1.length : Int)
    · rw [if_pos c, if_pos (by omega), headgatelaw14_made.j2, if_pos (by decide), if_pos (by omega), if_pos c, rd_opt]
      have hlt : j < x1.length := by omega
      rw [List.getElem?_eq_getElem hlt, Option.getD_some]
      obtain ⟨n0, n1⟩ := wf_i (hx _ (List.getElem_mem hlt))
      obtain ⟨q, hq, q0, q1⟩ := mod_f x1[j] 1048576 n0 n1 (by omega) (by omega)
      have hw : wrap64 ((j : Int) + 1) = ((j + 1 : Nat) : Int) := by unfold wrap64; omega
      have hl := hv.len
      rw [hw]
      have go := fun l2 (h2 : VL sz l2) => ih (j + 1) k l2 (by omega) h2 (by omega)
      by_cases c2 : Int.tmod q 2 = 0
      · by_cases e : (takE sz l).2.2.2 = 0
        · obtain ⟨e1, e2⟩ := take_VL hv e
          obtain ⟨l', g1, g2⟩ := go _ e2
          refine ⟨l', ?_, g2⟩
          refine bind_eq hq (ite_eq c2 (bind_eq (show pool_Take.f k sz l = some (takE sz l) from onE_of (by omega) _) (ite_eq e (ite_eq e1 ?_))))
          rw [e1]; exact g1
        · obtain ⟨l', g1, g2⟩ := go _ hv
          refine ⟨l', ?_, g2⟩
          exact bind_eq hq (ite_eq c2 (bind_eq (show pool_Take.f k sz l = some (takE sz l) from onE_of (by omega) _) (ite_ne e g1)))
      · have hz : ¬ sz = 0 := by have := hv.1; omega
        generalize hd : Int.tmod (wrap64 (Int.tdiv q 2)) sz = d
        by_cases e : (givE sz l d).2.2 = 0
        · obtain ⟨e1, e2⟩ := give_VL sz l d e
          obtain ⟨l', g1, g2⟩ := go _ e2
          refine ⟨l', ?_, g2⟩
          refine bind_eq hq (ite_ne c2 (ite_ne hz ?_))
          rw [hd]
          refine bind_eq (show pool_Give.f k sz l d = some (givE sz l d) from onE_of (by omega) _) (ite_eq e (ite_eq e1 ?_))
          rw [e1]; exact g1
        · obtain ⟨l', g1, g2⟩ := go _ hv
          refine ⟨l', ?_, g2⟩
          refine bind_eq hq (ite_ne c2 (ite_ne hz ?_))
          rw [hd]
          exact bind_eq (show pool_Give.f k sz l d = some (givE sz l d) from onE_of (by omega) _) (ite_ne e g1)
    · rw [if_neg c]
      exact ⟨l, made_end x0 x1 j sz r l hv hr hs k (by omega), hv⟩
theorem made_ok (a : Int) (wa : (Lit.int .i64 a).wf = true) (l : List Int) (hx : ∀ x ∈ l, (Lit.int .i64 x).wf = true) (k : Nat) (hk : 300 ≤ k) : ∃ sz l', headgatelaw14_made.f k a l = some (sz, l', true) ∧ VL sz l' := by
  obtain ⟨n0, n1⟩ := wf_i wa
  obtain ⟨r, hr, r0, r1⟩ := mod_f a 32 n0 n1 (by omega) (by omega)
  obtain ⟨k, rfl⟩ : ∃ m, k = m + 1 := ⟨k - 1, by omega⟩
  have hw : wrap64 (1 + r) = 1 + r := by unfold wrap64; omega
  have hv : VL (1 + r) (upto (1 + r).toNat) := by
    have := VL.filter (sz := 1 + r) (by omega) (by omega) (fun _ => true)
    rwa [List.filter_eq_self.2 (fun _ _ => rfl)] at this
  obtain ⟨l', g1, g2⟩ := made_l0 a l hx (1 + r) r hr hw.symm 60 0 k _ (by omega) hv (by omega)
  refine ⟨1 + r, l', ?_, g2⟩
  refine bind_eq hr ?_
  rw [hw]
  refine bind_eq (show pool_New.f (k + 1) (1 + r) = some (1 + r, upto (1 + r).toNat, 0) from by unfold pool_New.f newE; rw [if_neg (by omega)]) ?_
  refine ite_eq rfl ?_
  rw [show decide ((1 + r) < 1) = false from decide_eq_false (by omega), headgatelaw14_made.j0]
  exact ite_ne (by decide) g1
theorem back_pure : headgatelaw14_PoolBack.Pure := by
  intro a l wa hm hm' hx
  obtain ⟨sz, p, hp, hv⟩ := made_ok a wa l hx 501 (by omega)
  refine ⟨501, ?_⟩
  clear hm hm' hx wa
  have hl := hv.len
  have hc := chk_VL.2 hv
  have hL : pool_Left.f 501 sz p = some ((p.length : Int), 0) := by
    refine bind_eq (pchk sz p (by omega) 501 (by omega)) ?_
    exact ite_eq hc rfl
  have hT : ∀ (k : Nat) (q : List Int), VL sz q → pool_Taken.f k sz q = some ((upto sz.toNat).filter (fun i => !decide (i ∈ q)), 0) := by
    intro k q hq
    have hql := hq.len
    refine (onE_of (show q.length ≤ 1000 by omega) _).trans ?_
    unfold tkdE
    rw [if_pos (chk_VL.2 hq)]
  have hlen := hv.taken_len
  unfold headgatelaw14_PoolBack.f
  refine bind_eq rfl ?_
  refine bind_eq hp ?_
  refine bind_eq hL ?_
  refine bind_eq (hT 501 p hv) ?_
  refine ite_eq rfl (ite_eq rfl (ite_eq rfl (ite_eq rfl ?_)))
  have hsum : wrap64 ((p.length : Int) + (((upto sz.toNat).filter (fun i => !decide (i ∈ p))).length : Int)) = sz := by
    rw [hlen]; have := hv.1; have := hv.2.1; unfold wrap64; omega
  have hne : (wrap64 ((p.length : Int) + (((upto sz.toNat).filter (fun i => !decide (i ∈ p))).length : Int)) != sz) = false := by rw [hsum]; simp
  refine (congrArg (fun b => headgatelaw14_PoolBack.j0 501 true (p.length : Int) ((upto sz.toNat).filter (fun i => !decide (i ∈ p))) b sz p) hne).trans ?_
  show headgatelaw14_PoolBack.j0 (500 + 1) _ _ _ _ _ _ = _
  rw [headgatelaw14_PoolBack.j0]
  refine ite_ne (by decide) ?_
  have hk : ∀ q, (takE sz p) = q → pool_Take.f 500 sz p = some q := fun q hq => (onE_of (show p.length ≤ 1000 by omega) _).trans (by rw [hq])
  cases p with
  | nil =>
    refine bind_eq (hk (0, [], 0, 5) (by unfold takE; rw [if_pos hc]; rfl)) ?_
    exact ite_eq rfl (ite_eq rfl rfl)
  | cons x t =>
    have ht := hv.tail
    have htl := ht.len
    have hx := hv.2.2.1 x (List.mem_cons_self ..)
    have hnx : ¬ x ∈ t := fun h => by have := (List.pairwise_cons.1 hv.2.2.2).1 x h; omega
    refine bind_eq (hk (sz, t, x, 0) (by unfold takE; rw [if_pos hc]; rfl)) ?_
    refine ite_ne (by simp; omega) ?_
    refine bind_eq (hT 500 t ht) ?_
    have hg1 : pool_Give.f 500 sz t x = some (sz, x :: t, 0) := by
      refine (onE_of (show t.length ≤ 1000 by omega) _).trans ?_
      unfold givE
      rw [if_pos (ask_VL ht x hx.1 hx.2), if_neg hnx, hv.eq_filter _ (fun y _ _ => by simp)]
    have hg2 : pool_Give.f 500 sz (x :: t) x = some (0, [], 7) := by
      refine (onE_of (show (x :: t).length ≤ 1000 by omega) _).trans ?_
      unfold givE
      rw [if_pos (ask_VL hv x hx.1 hx.2), if_pos (List.mem_cons_self ..)]
    refine bind_eq hg1 ?_
    refine bind_eq hg2 ?_
    have htk := ht.taken_len
    have h1 := hv.1
    have h2 := hv.2.1
    refine ite_eq rfl (ite_eq rfl (ite_eq rfl (ite_eq rfl (ite_eq rfl (ite_eq ?_ (ite_eq ?_ (ite_eq ?_ ?_)))))))
    · show (((upto sz.toNat).filter (fun i => !decide (i ∈ t))).length : Int) = wrap64 ((((upto sz.toNat).filter (fun i => !decide (i ∈ x :: t))).length : Int) + 1)
      rw [htk, hlen]
      simp only [List.length_cons] at hl ⊢
      unfold wrap64; omega
    · simp <;> omega
    · simp [rd]
    · exact bind_eq (samep sz (x :: t) (by omega) 500 (by omega)) rfl
end Go.Proofs.YtompoghbdpfdjaaDoor.PA
