/- PageTells (function 4): the laws of sums, and the walk. -/
import Derived.Test.YtgibkebdkhildaaP
import Derived.Deep.RegionHeld3
import Derived.Test.YtgibkebdkhildaaWLast
namespace Go.Proofs.Ytgibkebdkhildaa
open Go.RowKit Go.Proofs.YtgibkebdkhildaaW.PrintLast
set_option linter.unusedVariables false
set_option linter.unusedSimpArgs false

theorem load_exec {P : Program} {oi : Oper} {a : Act} {w : World} (ty : TypeId) (x : Operand) (hop : oi.op = .load ty x) (g : Nat) (hx : a.eval x = .pointer (some ⟨g, 0, none⟩)) (v : Value) (hrun : (loadVar ty ⟨g, 0, none⟩).run P w = .ok v w) :
    (execOp a.eval oi).run P w = .ok (.value v) w := by
  unfold execOp
  simp only [hop, hx, Instr.loadAt, Instr.sureAddr, Sem.run_bind, Sem.run_pure, Result.andThen_ok, hrun]
theorem rot7_inj {x y : Int} (x0 : 0 ≤ x) (x1 : x ≤ 18446744073709551615) (y0 : 0 ≤ y) (y1 : y ≤ 18446744073709551615) (h : rotF x 7 = rotF y 7) : x = y := by
  unfold rotF at h
  simp only [show (64 - 7 : Nat) = 57 from rfl, show (2 : Int) ^ 7 = 128 from by decide, show (2 : Int) ^ 57 = 144115188075855872 from by decide] at h
  have key : ∀ z : Int, 0 ≤ z → z ≤ 18446744073709551615 → z * 128 % 18446744073709551616 = z % 144115188075855872 * 128 ∧ z / 144115188075855872 < 128 := by
    intro z z0 z1
    have e := Int.mul_emod_mul_of_pos z 144115188075855872 (show (0 : Int) < 128 by omega)
    rw [Int.mul_comm 128 z, show (128 : Int) * 144115188075855872 = 18446744073709551616 by decide, Int.mul_comm 128] at e
    exact ⟨e, by omega⟩
  obtain ⟨a1, a2⟩ := key x x0 x1
  obtain ⟨b1, b2⟩ := key y y0 y1
  rw [a1, b1] at h
  have ax : 0 ≤ x / 144115188075855872 := Int.ediv_nonneg x0 (by decide)
  have ay : 0 ≤ y / 144115188075855872 := Int.ediv_nonneg y0 (by decide)
  have ex := Int.mul_ediv_add_emod x 144115188075855872
  have ey := Int.mul_ediv_add_emod y 144115188075855872
  clear a1 b1 key x0 x1 y0 y1
  generalize x / 144115188075855872 = a at *
  generalize y / 144115188075855872 = b at *
  generalize x % 144115188075855872 = r at *
  generalize y % 144115188075855872 = s at *
  obtain rfl : a = b := by omega
  obtain rfl : r = s := by omega
  rw [← ex, ← ey]
theorem sm_set (C : List Int) (hC : C.length = 8) (hw : ∀ x ∈ C, 0 ≤ x ∧ x ≤ 18446744073709551615) (i : Nat) (hi : i < 8) (v : Int) (v0 : 0 ≤ v) (v1 : v ≤ 18446744073709551615) (hv : C.getD i 0 ≠ v) (k : Nat) :
    (k ≤ i → smTo (C.set i v) k = smTo C k) ∧ (i < k → smTo (C.set i v) k ≠ smTo C k) := by
  induction k with
  | zero => exact ⟨fun _ => rfl, fun h => by omega⟩
  | succ k ih =>
    obtain ⟨s0, s1⟩ := smTo_lt C k
    obtain ⟨t0, t1⟩ := smTo_lt (C.set i v) k
    obtain ⟨r0, r1⟩ := rotF_lt s0 s1 (show 7 < 64 by omega)
    obtain ⟨q0, q1⟩ := rotF_lt t0 t1 (show 7 < 64 by omega)
    have hg := set_getD C i k v (by omega)
    refine ⟨fun h => ?_, fun h => ?_⟩
    · unfold smTo
      rw [ih.1 (by omega), hg, if_neg (by omega)]
    · unfold smTo
      by_cases hk : i = k
      · subst hk
        rw [ih.1 (by omega), hg, if_pos rfl]
        have hm : 0 ≤ C.getD i 0 ∧ C.getD i 0 ≤ 18446744073709551615 := by
          rw [List.getD_eq_getElem?_getD, List.getElem?_eq_getElem (by omega)]
          exact hw _ (List.getElem_mem _)
        omega
      · rw [hg, if_neg hk]
        have hne := ih.2 (by omega)
        have hr : rotF (smTo (C.set i v) k) 7 ≠ rotF (smTo C k) 7 := fun e => hne (rot7_inj t0 t1 s0 s1 e)
        omega
theorem set_same (C : List Int) (i : Nat) (hi : i < C.length) (v : Int) : C = C.set i v ↔ C.getD i 0 = v := by
  constructor
  · intro h
    rw [h, set_getD C i i v hi, if_pos rfl]
  · intro h
    refine List.ext_getElem (by simp) fun j h1 h2 => ?_
    rw [List.getElem_set]
    by_cases hj : i = j
    · subst hj
      rw [if_pos rfl, ← h, List.getD_eq_getElem?_getD, List.getElem?_eq_getElem hi]
      rfl
    · rw [if_neg hj]
/-- what PageTells needs of a page and of the page with one word put -/
theorem tells_plain (C : List Int) (hC : C.length = 8) (hw : ∀ x ∈ C, 0 ≤ x ∧ x ≤ 18446744073709551615) (i : Nat) (hi : i < 8) (v : Int) (v0 : 0 ≤ v) (v1 : v ≤ 18446744073709551615) :
    (C = C.set i v ∧ dfF C (C.set i v) = [] ∧ smF C = smF (C.set i v)) ∨ (C ≠ C.set i v ∧ dfF C (C.set i v) = [(i : Int)] ∧ smF C ≠ smF (C.set i v)) := by
  by_cases h : C.getD i 0 = v
  · have e := (set_same C i (by omega) v).2 h
    refine .inl ⟨e, ?_, congrArg smF e⟩
    rw [← e]
    exact dfTo_same C 8
  · refine .inr ⟨fun e => h ((set_same C i (by omega) v).1 e), ?_, fun e => ((sm_set C hC hw i hi v v0 v1 h 8).2 hi) e.symm⟩
    unfold dfF
    rw [dfTo_set C i v (by omega) h 8, if_pos hi]

set_option maxRecDepth 20000 in
set_option maxHeartbeats 8000000 in
theorem tells_core (C D L : List Int) (hC : C.length = 8) (hD : D.length = 8) (x : Int) (i : Nat) (hi : i < 8) (hx : x % 8 = (i : Int)) (x0 : -9223372036854775808 ≤ x) (x1 : x ≤ 9223372036854775807) (v : Int) (SC SD : Int)
    (hL : dfF C D = L) (hlen : L.length ≤ 8)
    (HP : ∀ W, Calls Try.prog 13 #[.agg (ca C), .int .i64 (i : Int), .int .u64 v] W fun e w' => e = .returned (.tuple #[.agg (ca D), .int .i64 0]) ∧ Below W.heap.size W w')
    (HSC : ∀ W, Calls Try.prog 19 #[.agg (ca C)] W fun e w' => e = .returned (.int .u64 SC) ∧ Below W.heap.size W w')
    (HSD : ∀ W, Calls Try.prog 19 #[.agg (ca D)] W fun e w' => e = .returned (.int .u64 SD) ∧ Below W.heap.size W w')
    (hcase : (C = D ∧ L = [] ∧ SC = SD) ∨ (C ≠ D ∧ L = [(i : Int)] ∧ SC ≠ SD)) (w : World) :
    Calls Try.prog 4 #[.agg (ca C), .int .i64 x, .int .u64 v] w fun e w' => e = .returned (.bool true) ∧ Below w.heap.size w w' := by
  have hCD : ∀ W, Calls Try.prog 17 #[.agg (ca C), .agg (ca D)] W fun e w' => (∃ A c, e = .returned (.slice A L.length c) ∧ RdI w' A L) ∧ Below W.heap.size W w' := fun W => by rw [← hL]; exact diff_any C D hC hD W
  have hDC : ∀ W, Calls Try.prog 17 #[.agg (ca D), .agg (ca C)] W fun e w' => (∃ A c, e = .returned (.slice A L.length c) ∧ RdI w' A L) ∧ Below W.heap.size W w' := fun W => by rw [← hL, dfF_comm]; exact diff_any D C hD hC W
  have HEQ : ∀ W, (Op.equalIn 10000 24 (.agg (ca C)) (.agg (ca D))).run Try.prog W = .ok (decide (C = D)) W := fun W => by
    have := run_eq24 C D hC hD W
    rw [this]
    by_cases h : C = D <;> simp [h]
  have HM : ∀ W, Calls Try.prog 16 #[.int .i64 x, .int .i64 8] W fun e w' => e = .returned (.int .i64 (i : Int)) ∧ W = w' := fun W => by rw [← hx]; exact mod_any x 8 x0 x1 (by omega) (by omega) W
  have KCD := hid hCD
  have KDC := hid hDC
  have KEQ := hid HEQ
  have KM := hid HM
  have KP := hid HP
  have KSC := hid HSC
  have KSD := hid HSD
  have KCASE := hid hcase
  have hb0 := (Below.refl w.heap.size w).alloc (Nat.le_refl _) (.cells (ca C) 24)
  have hx0 := heap_alloc_new w (.cells (ca C) 24)
  clear hCD hDC HEQ HM HP HSC HSD hcase hx hL
  go_enter Try.func4, Try.ntmps4
  go_wp2_with fail
  refine (KM.out _).mono ?_
  rintro e w' ⟨rfl, rfl⟩
  have i0 : (0 : Int) ≤ (i : Int) := by omega
  have i1 : (i : Int) < 8 := by omega
  go_wp2_with (refine wpList_load_row rfl 24 _ rfl w.heap.size rfl 24 (ca C) (0, 0) _ hx0 Try.underlying24 rfl (i24 hC) ?_)
  refine (KP.out _).mono ?_
  rintro e w1 ⟨rfl, hc⟩
  have hx1 := hbk hc hx0
  have hb1 := hb0.trans (hc.mono hb0.size)
  clear hc hx0 hb0
  go_wp2_with (refine wpList_store_row rfl 24 _ _ rfl w1.heap.size (ca D) rfl rfl 24 _ (heap_alloc_new _ _) (i24 hD) (by rw [ca_size, hD]; rfl) (ca_one _) ?_; rw [World.setRow_alloc_new])
  have hy := heap_alloc_new w1 (.cells (ca D) 24)
  have hblt : w.heap.size < w1.heap.size := (Array.getElem?_eq_some_iff.1 hx1).1
  have hx2 := al hx1 (.cells (ca D) 24)
  have hb2 := hb1.alloc hb1.size (.cells (ca D) 24)
  clear hx1 hb1
  generalize hW2 : w1.alloc _ = W2 at hx2 hy hb2 ⊢
  clear hW2 KP
  generalize hB1 : w1.heap.size = B1 at *
  clear hB1
  refine start_ (n := 8) (S := fun w' => w'.heap[w.heap.size]? = some (.cells (ca C) 24 (0, 0)) ∧ w'.heap[B1]? = some (.cells (ca D) 24 (0, 0))) (ds := []) #[false, false, false, false, false, false, false, false] (by kernel_rfl) rfl rfl ⟨hx2, hy⟩ (fun hHeld => ?_)
  refine take_ (i := 0) (N := some 21) (v := .agg (ca C)) (a' := ?_) #[true, false, false, false, false, false, false, false] rfl rfl (by kernel_rfl) (fun _ _ _ h => h) (Or.inl ⟨by rfl, fun w' hs => load_exec 24 _ rfl w.heap.size rfl _ (run_loadVar_row w' _ 24 24 _ (0, 0) _ hs.1 Try.underlying24 rfl (i24 hC))⟩) hHeld ?_ ?_
  rotate_left
  · simp only [Act.put, List.setIfInBounds_toArray, List.set_cons_zero, List.set_cons_succ, i64_w, i32_w]
    rfl
  refine take_ (i := 1) (N := some 22) (v := .agg (ca D)) (a' := ?_) #[true, true, false, false, false, false, false, false] rfl rfl (by kernel_rfl) (fun _ _ _ h => h) (Or.inl ⟨by rfl, fun w' hs => load_exec 24 _ rfl B1 rfl _ (run_loadVar_row w' _ 24 24 _ (0, 0) _ hs.2 Try.underlying24 rfl (i24 hD))⟩) hHeld ?_ ?_
  rotate_left
  · simp only [Act.put, List.setIfInBounds_toArray, List.set_cons_zero, List.set_cons_succ, i64_w, i32_w]
    rfl
  refine take_ (i := 3) (N := some 24) (v := .agg (ca D)) (a' := ?_) #[true, true, false, true, false, false, false, false] rfl rfl (by kernel_rfl) (fun _ _ _ h => h) (Or.inl ⟨by rfl, fun w' hs => load_exec 24 _ rfl B1 rfl _ (run_loadVar_row w' _ 24 24 _ (0, 0) _ hs.2 Try.underlying24 rfl (i24 hD))⟩) hHeld ?_ ?_
  rotate_left
  · simp only [Act.put, List.setIfInBounds_toArray, List.set_cons_zero, List.set_cons_succ, i64_w, i32_w]
    rfl
  refine take_ (i := 4) (N := some 25) (v := .agg (ca C)) (a' := ?_) #[true, true, false, true, true, false, false, false] rfl rfl (by kernel_rfl) (fun _ _ _ h => h) (Or.inl ⟨by rfl, fun w' hs => load_exec 24 _ rfl w.heap.size rfl _ (run_loadVar_row w' _ 24 24 _ (0, 0) _ hs.1 Try.underlying24 rfl (i24 hC))⟩) hHeld ?_ ?_
  rotate_left
  · simp only [Act.put, List.setIfInBounds_toArray, List.set_cons_zero, List.set_cons_succ, i64_w, i32_w]
    rfl
  refine one_ (i := 2) (N := some 23) #[true, true, true, true, true, false, false, false] rfl rfl (by kernel_rfl) (by decide) (fun K hK => ?_)
  refine goes_ Try.func17 (by kernel_rfl) rfl #[.agg (ca C), .agg (ca D)] (by rfl) rfl rfl (by (try simp only [List.map_toArray, List.map_cons, List.map_nil]); first | done | rfl) ?_
  refine (KCD.out _).mono ?_
  rintro e w5 ⟨⟨A5, k5, rfl, hr5⟩, hb5⟩
  have hb5' := hb2.drew.trans (hb5.mono hb2.size)
  refine ⟨_, rfl, ?_⟩
  refine hK.out _ _ ⟨hbk hb5 hHeld.1, hbk hb5 hHeld.2⟩ (fun hHeld => ?_)
  clear hK K
  refine norm_ (a' := ?_) ?_ ?_
  rotate_left
  · show Act.put _ (some 23) _ = _
    simp only [Act.put, List.setIfInBounds_toArray, List.set_cons_zero, List.set_cons_succ, i64_w, i32_w]
    rfl
  refine one_ (i := 5) (N := some 26) #[true, true, true, true, true, true, false, false] rfl rfl (by kernel_rfl) (by decide) (fun K hK => ?_)
  refine goes_ Try.func17 (by kernel_rfl) rfl #[.agg (ca D), .agg (ca C)] (by rfl) rfl rfl (by (try simp only [List.map_toArray, List.map_cons, List.map_nil]); first | done | rfl) ?_
  refine (KDC.out _).mono ?_
  rintro e w6 ⟨⟨A6, k6, rfl, hr6⟩, hb6⟩
  have hb6' := hb5'.trans (hb6.mono hb5'.size)
  have hr5' := hr5.below hb6
  refine ⟨_, rfl, ?_⟩
  refine hK.out _ _ ⟨hbk hb6 hHeld.1, hbk hb6 hHeld.2⟩ (fun hHeld => ?_)
  clear hK K
  refine norm_ (a' := ?_) ?_ ?_
  rotate_left
  · show Act.put _ (some 26) _ = _
    simp only [Act.put, List.setIfInBounds_toArray, List.set_cons_zero, List.set_cons_succ, i64_w, i32_w]
    rfl
  refine pure_ (i := 6) (N := some 10) (v := ?_) (a' := ?_) #[true, true, true, true, true, true, true, false] rfl rfl (by kernel_rfl) (fun _ _ _ h => h) (Or.inl ⟨by rfl, ?_⟩) ?_ ?_
  rotate_left
  · intro w'
    go_simp
    with_reducible rfl
  rotate_left
  · simp only [Act.put, List.setIfInBounds_toArray, List.set_cons_zero, List.set_cons_succ, i64_w, i32_w]
    rfl
  refine pure_ (i := 7) (N := some 11) (v := ?_) (a' := ?_) #[true, true, true, true, true, true, true, true] rfl rfl (by kernel_rfl) (fun _ _ _ h => h) (Or.inl ⟨by rfl, ?_⟩) ?_ ?_
  rotate_left
  · intro w'
    go_simp
    with_reducible rfl
  rotate_left
  · simp only [Act.put, List.setIfInBounds_toArray, List.set_cons_zero, List.set_cons_succ, i64_w, i32_w]
    rfl
  refine done_ (by kernel_rfl) ?_
  have hx3 := hHeld.1
  have hy3 := hHeld.2
  clear hHeld hx2 hy hb2 hb5 hb5' hr5
  go_wp2_with fail
  refine (same_any A5 A6 k5 k6 L L (by omega) (by omega) _ hr5' hr6).mono ?_
  rintro e w7 ⟨rfl, hb7⟩
  rw [show decide (L = L) = true from by simp]
  have hx4 := hbk hb7 hx3
  have hy4 := hbk hb7 hy3
  have hb7' := hb6'.trans (hb7.mono hb6'.size)
  have hr7 := hr5'.below hb7
  clear hx3 hy3 hb7 hb6' hr5' hr6
  rcases KCASE.out with ⟨he, hL0, hS⟩ | ⟨he, hL1, hS⟩
  · have heq := fun W => (KEQ.out W).trans (by rw [decide_eq_true he])
    have hw : ∀ W, (Op.equalIn 10000 24 (.agg (ca C)) (.agg (ca D))).run Try.prog W = .ok true W := heq
    clear heq
    subst hL0
    have es : (SC == SD) = true := by simp [hS]
    clear hS KCASE he
    go_wp2_with (first
      | (refine wpList_load_row rfl 24 _ rfl w.heap.size rfl 24 (ca C) (0, 0) _ hx4 Try.underlying24 rfl (i24 hC) ?_)
      | (refine wpList_load_row rfl 24 _ rfl B1 rfl 24 (ca D) (0, 0) _ hy4 Try.underlying24 rfl (i24 hD) ?_))
    refine start_ (n := 14) (S := fun w' => w'.heap[w.heap.size]? = some (.cells (ca C) 24 (0, 0)) ∧ w'.heap[B1]? = some (.cells (ca D) 24 (0, 0))) (ds := []) #[false, false, false, false, false, false, false, false, false, false, false, false, false, false] (by kernel_rfl) rfl rfl ⟨hx4, hy4⟩ (fun hHeld => ?_)
    refine pure_ (i := 0) (N := some 38) (v := ?_) (a' := ?_) #[true, false, false, false, false, false, false, false, false, false, false, false, false, false] rfl rfl (by kernel_rfl) (fun _ _ _ h => h) (Or.inl ⟨by rfl, ?_⟩) ?_ ?_
    rotate_left
    · intro w'
      go_simp
      with_reducible rfl
    rotate_left
    · simp only [Act.put, List.setIfInBounds_toArray, List.set_cons_zero, List.set_cons_succ, i64_w, i32_w]
      rfl
    refine pure_ (i := 1) (N := some 39) (v := ?_) (a' := ?_) #[true, true, false, false, false, false, false, false, false, false, false, false, false, false] rfl rfl (by kernel_rfl) (fun _ _ _ h => h) (Or.inl ⟨by rfl, ?_⟩) ?_ ?_
    rotate_left
    · intro w'
      go_simp
      with_reducible rfl
    rotate_left
    · simp only [Act.put, List.setIfInBounds_toArray, List.set_cons_zero, List.set_cons_succ, i64_w, i32_w]
      rfl
    refine pure_ (i := 2) (N := some 40) (v := ?_) (a' := ?_) #[true, true, true, false, false, false, false, false, false, false, false, false, false, false] rfl rfl (by kernel_rfl) (fun _ _ _ h => h) (Or.inl ⟨by rfl, ?_⟩) ?_ ?_
    rotate_left
    · intro w'
      go_simp
      with_reducible rfl
    rotate_left
    · simp only [Act.put, List.setIfInBounds_toArray, List.set_cons_zero, List.set_cons_succ, i64_w, i32_w]
      rfl
    refine pure_ (i := 3) (N := some 41) (v := ?_) (a' := ?_) #[true, true, true, true, false, false, false, false, false, false, false, false, false, false] rfl rfl (by kernel_rfl) (fun _ _ _ h => h) (Or.inl ⟨by rfl, ?_⟩) ?_ ?_
    rotate_left
    · intro w'
      go_simp
      with_reducible rfl
    rotate_left
    · simp only [Act.put, List.setIfInBounds_toArray, List.set_cons_zero, List.set_cons_succ, i64_w, i32_w]
      rfl
    refine take_ (i := 4) (N := some 42) (v := .agg (ca C)) (a' := ?_) #[true, true, true, true, true, false, false, false, false, false, false, false, false, false] rfl rfl (by kernel_rfl) (fun _ _ _ h => h) (Or.inl ⟨by rfl, fun w' hs => load_exec 24 _ rfl w.heap.size rfl _ (run_loadVar_row w' _ 24 24 _ (0, 0) _ hs.1 Try.underlying24 rfl (i24 hC))⟩) hHeld ?_ ?_
    rotate_left
    · simp only [Act.put, List.setIfInBounds_toArray, List.set_cons_zero, List.set_cons_succ, i64_w, i32_w]
      rfl
    refine take_ (i := 6) (N := some 44) (v := .agg (ca D)) (a' := ?_) #[true, true, true, true, true, false, true, false, false, false, false, false, false, false] rfl rfl (by kernel_rfl) (fun _ _ _ h => h) (Or.inl ⟨by rfl, fun w' hs => load_exec 24 _ rfl B1 rfl _ (run_loadVar_row w' _ 24 24 _ (0, 0) _ hs.2 Try.underlying24 rfl (i24 hD))⟩) hHeld ?_ ?_
    rotate_left
    · simp only [Act.put, List.setIfInBounds_toArray, List.set_cons_zero, List.set_cons_succ, i64_w, i32_w]
      rfl
    refine one_ (i := 5) (N := some 43) #[true, true, true, true, true, true, true, false, false, false, false, false, false, false] rfl rfl (by kernel_rfl) (by decide) (fun K hK => ?_)
    refine goes_ Try.func19 (by kernel_rfl) rfl #[.agg (ca C)] (by rfl) rfl rfl (by (try simp only [List.map_toArray, List.map_cons, List.map_nil]); first | done | rfl) ?_
    refine (KSC.out _).mono ?_
    rintro e w8 ⟨rfl, hb8⟩
    have hb8' := hb7'.drew.trans (hb8.mono hb7'.size)
    refine ⟨_, rfl, ?_⟩
    refine hK.out _ _ ⟨hbk hb8 hHeld.1, hbk hb8 hHeld.2⟩ (fun hHeld => ?_)
    clear hK K
    refine norm_ (a' := ?_) ?_ ?_
    rotate_left
    · show Act.put _ (some 43) _ = _
      simp only [Act.put, List.setIfInBounds_toArray, List.set_cons_zero, List.set_cons_succ, i64_w, i32_w]
      rfl
    refine one_ (i := 7) (N := some 45) #[true, true, true, true, true, true, true, true, false, false, false, false, false, false] rfl rfl (by kernel_rfl) (by decide) (fun K hK => ?_)
    refine goes_ Try.func19 (by kernel_rfl) rfl #[.agg (ca D)] (by rfl) rfl rfl (by (try simp only [List.map_toArray, List.map_cons, List.map_nil]); first | done | rfl) ?_
    refine (KSD.out _).mono ?_
    rintro e w9 ⟨rfl, hb9⟩
    have hb9' := hb8'.trans (hb9.mono hb8'.size)
    refine ⟨_, rfl, ?_⟩
    refine hK.out _ _ ⟨hbk hb9 hHeld.1, hbk hb9 hHeld.2⟩ (fun hHeld => ?_)
    clear hK K
    refine norm_ (a' := ?_) ?_ ?_
    rotate_left
    · show Act.put _ (some 45) _ = _
      simp only [Act.put, List.setIfInBounds_toArray, List.set_cons_zero, List.set_cons_succ, i64_w, i32_w]
      rfl
    refine pure_ (i := 8) (N := some 46) (v := ?_) (a' := ?_) #[true, true, true, true, true, true, true, true, true, false, false, false, false, false] rfl rfl (by kernel_rfl) (fun _ _ _ h => h) (Or.inl ⟨by rfl, ?_⟩) ?_ ?_
    rotate_left
    · intro w'
      go_simp
      with_reducible rfl
    rotate_left
    · simp only [Act.put, List.setIfInBounds_toArray, List.set_cons_zero, List.set_cons_succ, i64_w, i32_w]
      rfl
    refine pure_ (i := 9) (N := some 47) (v := ?_) (a' := ?_) #[true, true, true, true, true, true, true, true, true, true, false, false, false, false] rfl rfl (by kernel_rfl) (fun _ _ _ h => h) (Or.inl ⟨by rfl, ?_⟩) ?_ ?_
    rotate_left
    · intro w'
      go_simp
      with_reducible rfl
    rotate_left
    · simp only [Act.put, List.setIfInBounds_toArray, List.set_cons_zero, List.set_cons_succ, i64_w, i32_w]
      rfl
    refine pure_ (i := 10) (N := some 48) (v := ?_) (a' := ?_) #[true, true, true, true, true, true, true, true, true, true, true, false, false, false] rfl rfl (by kernel_rfl) (fun _ _ _ h => h) (Or.inl ⟨by rfl, ?_⟩) ?_ ?_
    rotate_left
    · intro w'
      go_simp
      with_reducible rfl
    rotate_left
    · simp only [Act.put, List.setIfInBounds_toArray, List.set_cons_zero, List.set_cons_succ, i64_w, i32_w]
      rfl
    refine one_ (i := 11) (N := some 49) #[true, true, true, true, true, true, true, true, true, true, true, true, false, false] rfl rfl (by kernel_rfl) (by decide) (fun K hK => ?_)
    refine goes_ Try.func15 (by kernel_rfl) rfl #[] (by rfl) rfl rfl (by (try simp only [List.map_toArray, List.map_cons, List.map_nil]); first | done | rfl) ?_
    refine (awake_any _).mono ?_
    rintro e w10 ⟨rfl, hb10⟩
    have hb10' := hb9'.trans (hb10.mono hb9'.size)
    refine ⟨_, rfl, ?_⟩
    refine hK.out _ _ ⟨hbk hb10 hHeld.1, hbk hb10 hHeld.2⟩ (fun hHeld => ?_)
    clear hK K
    refine norm_ (a' := ?_) ?_ ?_
    rotate_left
    · show Act.put _ (some 49) _ = _
      simp only [Act.put, List.setIfInBounds_toArray, List.set_cons_zero, List.set_cons_succ, i64_w, i32_w]
      rfl
    refine pure_ (i := 12) (N := some 50) (v := ?_) (a' := ?_) #[true, true, true, true, true, true, true, true, true, true, true, true, true, false] rfl rfl (by kernel_rfl) (fun _ _ _ h => h) (Or.inl ⟨by rfl, ?_⟩) ?_ ?_
    rotate_left
    · intro w'
      go_simp
      with_reducible rfl
    rotate_left
    · simp only [Act.put, List.setIfInBounds_toArray, List.set_cons_zero, List.set_cons_succ, i64_w, i32_w]
      rfl
    refine pure_ (i := 13) (N := some 6) (v := ?_) (a' := ?_) #[true, true, true, true, true, true, true, true, true, true, true, true, true, true] rfl rfl (by kernel_rfl) (fun _ _ _ h => h) (Or.inl ⟨by rfl, ?_⟩) ?_ ?_
    rotate_left
    · intro w'
      go_simp
      with_reducible rfl
    rotate_left
    · simp only [Act.put, List.setIfInBounds_toArray, List.set_cons_zero, List.set_cons_succ, i64_w, i32_w]
      rfl
    refine done_ (by kernel_rfl) ?_
    go_wp2_with fail
    go_ret
    exact ⟨rfl, hb10'⟩
  · have hw : ∀ W, (Op.equalIn 10000 24 (.agg (ca C)) (.agg (ca D))).run Try.prog W = .ok false W := fun W => (KEQ.out W).trans (by rw [decide_eq_false he])
    subst hL1
    have es : (SC != SD) = true := by simp [hS]
    clear hS KCASE he
    go_wp2_with (first
      | (refine wpList_load_row rfl 24 _ rfl w.heap.size rfl 24 (ca C) (0, 0) _ hx4 Try.underlying24 rfl (i24 hC) ?_)
      | (refine wpList_load_row rfl 24 _ rfl B1 rfl 24 (ca D) (0, 0) _ hy4 Try.underlying24 rfl (i24 hD) ?_))
    refine start_ (n := 15) (S := fun w' => w'.heap[w.heap.size]? = some (.cells (ca C) 24 (0, 0)) ∧ w'.heap[B1]? = some (.cells (ca D) 24 (0, 0))) (ds := []) #[false, false, false, false, false, false, false, false, false, false, false, false, false, false, false] (by kernel_rfl) rfl rfl ⟨hx4, hy4⟩ (fun hHeld => ?_)
    refine pure_ (i := 0) (N := some 51) (v := ?_) (a' := ?_) #[true, false, false, false, false, false, false, false, false, false, false, false, false, false, false] rfl rfl (by kernel_rfl) (fun _ _ _ h => h) (Or.inl ⟨by rfl, ?_⟩) ?_ ?_
    rotate_left
    · intro w'
      go_simp
      with_reducible rfl
    rotate_left
    · simp only [Act.put, List.setIfInBounds_toArray, List.set_cons_zero, List.set_cons_succ, i64_w, i32_w]
      rfl
    refine pure_ (i := 1) (N := some 52) (v := ?_) (a' := ?_) #[true, true, false, false, false, false, false, false, false, false, false, false, false, false, false] rfl rfl (by kernel_rfl) (fun _ _ _ h => h) (Or.inl ⟨by rfl, ?_⟩) ?_ ?_
    rotate_left
    · intro w'
      go_simp
      with_reducible rfl
    rotate_left
    · simp only [Act.put, List.setIfInBounds_toArray, List.set_cons_zero, List.set_cons_succ, i64_w, i32_w]
      rfl
    refine one_ (i := 2) (N := some 53) #[true, true, true, false, false, false, false, false, false, false, false, false, false, false, false] rfl rfl (by kernel_rfl) (by decide) (fun K hK => ?_)
    refine value_ (v := .slice (some ⟨w7.heap.size, 0, none⟩) 1 1) (w1 := (w7.alloc (.cells #[.int .i64 (i : Int)] 3)).drew) (by rfl) rfl (by go_simp) ?_
    have hr8 : RdI (w7.alloc (.cells #[.int .i64 (i : Int)] 3)).drew A5 [(i : Int)] := (hr7.below ((Below.refl _ w7).alloc (Nat.le_refl _) (.cells #[.int .i64 (i : Int)] 3))).drew
    have hn8 : RdI (w7.alloc (.cells #[.int .i64 (i : Int)] 3)).drew (some ⟨w7.heap.size, 0, none⟩) [(i : Int)] := Or.inr ⟨w7.heap.size, 0, rfl, fun j hj => by
      obtain rfl : j = 0 := by simp at hj; omega
      simp⟩
    have hb8 : Below w.heap.size w (w7.alloc (.cells #[.int .i64 (i : Int)] 3)).drew := (hb7'.alloc hb7'.size _).drew
    refine hK.out _ _ ⟨al hHeld.1 _, al hHeld.2 _⟩ (fun hHeld => ?_)
    clear hK K
    refine norm_ (a' := ?_) ?_ ?_
    rotate_left
    · show Act.put _ (some 53) _ = _
      simp only [Act.put, List.setIfInBounds_toArray, List.set_cons_zero, List.set_cons_succ, i64_w, i32_w]
      rfl
    refine one_ (i := 3) (N := some 54) #[true, true, true, true, false, false, false, false, false, false, false, false, false, false, false] rfl rfl (by kernel_rfl) (by decide) (fun K hK => ?_)
    refine goes_ Try.func18 (by kernel_rfl) rfl #[.slice A5 1 k5, .slice (some ⟨w7.heap.size, 0, none⟩) 1 1] (by rfl) rfl rfl (by (try simp only [List.map_toArray, List.map_cons, List.map_nil]); first | done | rfl) ?_
    refine (same_any A5 _ k5 1 [(i : Int)] [(i : Int)] (by simp) (by simp) _ hr8 hn8).mono ?_
    rintro e w8 ⟨rfl, hc8⟩
    rw [show decide ([(i : Int)] = [(i : Int)]) = true from by simp]
    have hb8' := hb8.trans (hc8.mono hb8.size)
    refine ⟨_, rfl, ?_⟩
    refine hK.out _ _ ⟨hbk hc8 hHeld.1, hbk hc8 hHeld.2⟩ (fun hHeld => ?_)
    clear hK K
    refine norm_ (a' := ?_) ?_ ?_
    rotate_left
    · show Act.put _ (some 54) _ = _
      simp only [Act.put, List.setIfInBounds_toArray, List.set_cons_zero, List.set_cons_succ, i64_w, i32_w]
      rfl
    refine pure_ (i := 4) (N := some 55) (v := ?_) (a' := ?_) #[true, true, true, true, true, false, false, false, false, false, false, false, false, false, false] rfl rfl (by kernel_rfl) (fun _ _ _ h => h) (Or.inl ⟨by rfl, ?_⟩) ?_ ?_
    rotate_left
    · intro w'
      go_simp
      with_reducible rfl
    rotate_left
    · simp only [Act.put, List.setIfInBounds_toArray, List.set_cons_zero, List.set_cons_succ, i64_w, i32_w]
      rfl
    refine take_ (i := 5) (N := some 56) (v := .agg (ca C)) (a' := ?_) #[true, true, true, true, true, true, false, false, false, false, false, false, false, false, false] rfl rfl (by kernel_rfl) (fun _ _ _ h => h) (Or.inl ⟨by rfl, fun w' hs => load_exec 24 _ rfl w.heap.size rfl _ (run_loadVar_row w' _ 24 24 _ (0, 0) _ hs.1 Try.underlying24 rfl (i24 hC))⟩) hHeld ?_ ?_
    rotate_left
    · simp only [Act.put, List.setIfInBounds_toArray, List.set_cons_zero, List.set_cons_succ, i64_w, i32_w]
      rfl
    refine take_ (i := 7) (N := some 58) (v := .agg (ca D)) (a' := ?_) #[true, true, true, true, true, true, false, true, false, false, false, false, false, false, false] rfl rfl (by kernel_rfl) (fun _ _ _ h => h) (Or.inl ⟨by rfl, fun w' hs => load_exec 24 _ rfl B1 rfl _ (run_loadVar_row w' _ 24 24 _ (0, 0) _ hs.2 Try.underlying24 rfl (i24 hD))⟩) hHeld ?_ ?_
    rotate_left
    · simp only [Act.put, List.setIfInBounds_toArray, List.set_cons_zero, List.set_cons_succ, i64_w, i32_w]
      rfl
    refine one_ (i := 6) (N := some 57) #[true, true, true, true, true, true, true, true, false, false, false, false, false, false, false] rfl rfl (by kernel_rfl) (by decide) (fun K hK => ?_)
    refine goes_ Try.func19 (by kernel_rfl) rfl #[.agg (ca C)] (by rfl) rfl rfl (by (try simp only [List.map_toArray, List.map_cons, List.map_nil]); first | done | rfl) ?_
    refine (KSC.out _).mono ?_
    rintro e w9 ⟨rfl, hc9⟩
    have hb9' := hb8'.trans (hc9.mono hb8'.size)
    refine ⟨_, rfl, ?_⟩
    refine hK.out _ _ ⟨hbk hc9 hHeld.1, hbk hc9 hHeld.2⟩ (fun hHeld => ?_)
    clear hK K
    refine norm_ (a' := ?_) ?_ ?_
    rotate_left
    · show Act.put _ (some 57) _ = _
      simp only [Act.put, List.setIfInBounds_toArray, List.set_cons_zero, List.set_cons_succ, i64_w, i32_w]
      rfl
    refine one_ (i := 8) (N := some 59) #[true, true, true, true, true, true, true, true, true, false, false, false, false, false, false] rfl rfl (by kernel_rfl) (by decide) (fun K hK => ?_)
    refine goes_ Try.func19 (by kernel_rfl) rfl #[.agg (ca D)] (by rfl) rfl rfl (by (try simp only [List.map_toArray, List.map_cons, List.map_nil]); first | done | rfl) ?_
    refine (KSD.out _).mono ?_
    rintro e w10 ⟨rfl, hc10⟩
    have hb10' := hb9'.trans (hc10.mono hb9'.size)
    refine ⟨_, rfl, ?_⟩
    refine hK.out _ _ ⟨hbk hc10 hHeld.1, hbk hc10 hHeld.2⟩ (fun hHeld => ?_)
    clear hK K
    refine norm_ (a' := ?_) ?_ ?_
    rotate_left
    · show Act.put _ (some 59) _ = _
      simp only [Act.put, List.setIfInBounds_toArray, List.set_cons_zero, List.set_cons_succ, i64_w, i32_w]
      rfl
    refine pure_ (i := 9) (N := some 60) (v := ?_) (a' := ?_) #[true, true, true, true, true, true, true, true, true, true, false, false, false, false, false] rfl rfl (by kernel_rfl) (fun _ _ _ h => h) (Or.inl ⟨by rfl, ?_⟩) ?_ ?_
    rotate_left
    · intro w'
      go_simp
      with_reducible rfl
    rotate_left
    · simp only [Act.put, List.setIfInBounds_toArray, List.set_cons_zero, List.set_cons_succ, i64_w, i32_w]
      rfl
    refine pure_ (i := 10) (N := some 61) (v := ?_) (a' := ?_) #[true, true, true, true, true, true, true, true, true, true, true, false, false, false, false] rfl rfl (by kernel_rfl) (fun _ _ _ h => h) (Or.inl ⟨by rfl, ?_⟩) ?_ ?_
    rotate_left
    · intro w'
      go_simp
      with_reducible rfl
    rotate_left
    · simp only [Act.put, List.setIfInBounds_toArray, List.set_cons_zero, List.set_cons_succ, i64_w, i32_w]
      rfl
    refine pure_ (i := 11) (N := some 62) (v := ?_) (a' := ?_) #[true, true, true, true, true, true, true, true, true, true, true, true, false, false, false] rfl rfl (by kernel_rfl) (fun _ _ _ h => h) (Or.inl ⟨by rfl, ?_⟩) ?_ ?_
    rotate_left
    · intro w'
      go_simp
      with_reducible rfl
    rotate_left
    · simp only [Act.put, List.setIfInBounds_toArray, List.set_cons_zero, List.set_cons_succ, i64_w, i32_w]
      rfl
    refine one_ (i := 12) (N := some 63) #[true, true, true, true, true, true, true, true, true, true, true, true, true, false, false] rfl rfl (by kernel_rfl) (by decide) (fun K hK => ?_)
    refine goes_ Try.func15 (by kernel_rfl) rfl #[] (by rfl) rfl rfl (by (try simp only [List.map_toArray, List.map_cons, List.map_nil]); first | done | rfl) ?_
    refine (awake_any _).mono ?_
    rintro e w11 ⟨rfl, hc11⟩
    have hb11' := hb10'.trans (hc11.mono hb10'.size)
    refine ⟨_, rfl, ?_⟩
    refine hK.out _ _ ⟨hbk hc11 hHeld.1, hbk hc11 hHeld.2⟩ (fun hHeld => ?_)
    clear hK K
    refine norm_ (a' := ?_) ?_ ?_
    rotate_left
    · show Act.put _ (some 63) _ = _
      simp only [Act.put, List.setIfInBounds_toArray, List.set_cons_zero, List.set_cons_succ, i64_w, i32_w]
      rfl
    refine pure_ (i := 13) (N := some 64) (v := ?_) (a' := ?_) #[true, true, true, true, true, true, true, true, true, true, true, true, true, true, false] rfl rfl (by kernel_rfl) (fun _ _ _ h => h) (Or.inl ⟨by rfl, ?_⟩) ?_ ?_
    rotate_left
    · intro w'
      go_simp
      with_reducible rfl
    rotate_left
    · simp only [Act.put, List.setIfInBounds_toArray, List.set_cons_zero, List.set_cons_succ, i64_w, i32_w]
      rfl
    refine pure_ (i := 14) (N := some 6) (v := ?_) (a' := ?_) #[true, true, true, true, true, true, true, true, true, true, true, true, true, true, true] rfl rfl (by kernel_rfl) (fun _ _ _ h => h) (Or.inl ⟨by rfl, ?_⟩) ?_ ?_
    rotate_left
    · intro w'
      go_simp
      with_reducible rfl
    rotate_left
    · simp only [Act.put, List.setIfInBounds_toArray, List.set_cons_zero, List.set_cons_succ, i64_w, i32_w]
      rfl
    refine done_ (by kernel_rfl) ?_
    go_wp2_with fail
    go_ret
    exact ⟨rfl, hb11'⟩

theorem tells_walk (C : List Int) (hC : C.length = 8) (hw : ∀ x ∈ C, (Lit.int .u64 x).wf = true) (x : Int) (wx : (Lit.int .i64 x).wf = true) (v : Int) (wv : (Lit.int .u64 v).wf = true) (w : World) :
    Calls Try.prog 4 #[.agg (ca C), .int .i64 x, .int .u64 v] w fun e w' => e = .returned (.bool true) ∧ Below w.heap.size w w' := by
  have hw' : ∀ x ∈ C, 0 ≤ x ∧ x ≤ 18446744073709551615 := fun x hx => wfu (hw x hx)
  obtain ⟨v0, v1⟩ := wfu wv
  obtain ⟨i, hi⟩ := Int.eq_ofNat_of_zero_le (show 0 ≤ x % 8 by omega)
  have hi8 : i < 8 := by omega
  have hp : ptC C (i : Int) v = C.set i v := by
    unfold ptC
    rw [if_pos (by unfold inW; omega)]
    rfl
  have hD : (C.set i v).length = 8 := by rw [List.length_set]; exact hC
  have hDw : ∀ x ∈ C.set i v, 0 ≤ x ∧ x ≤ 18446744073709551615 := fun y hy => by
    rcases List.mem_or_eq_of_mem_set hy with h | h
    · exact hw' y h
    · rw [h]; exact ⟨v0, v1⟩
  exact tells_core C (C.set i v) (dfF C (C.set i v)) hC hD x i hi8 hi (wf64 wx).1 (wf64 wx).2 v (smF C) (smF (C.set i v)) rfl (dfTo_len _ _ 8)
    (fun W => by
      have := put_any C hC (i : Int) v W
      rw [hp, show gtE (i : Int) = 0 from if_pos (by unfold inW; omega)] at this
      exact this)
    (fun W => sum_any C hC hw' W) (fun W => sum_any _ hD hDw W) (tells_plain C hC hw' i hi8 v v0 v1) w
end Go.Proofs.Ytgibkebdkhildaa
