import Derived.Test.YtgibkebdkhildaaE
import Derived.Stop.BytesEq
namespace Go.Proofs.Ytgibkebdkhildaa
open Go.RowKit
set_option linter.unusedVariables false
set_option linter.unusedSimpArgs false

theorem hbk {w w1 : World} {k : Nat} {x : Obj} (hb : Below w.heap.size w w1) (h : w.heap[k]? = some x) : w1.heap[k]? = some x := by
  have hk : k < w.heap.size := by
    rcases Nat.lt_or_ge k w.heap.size with hlt | hge
    · exact hlt
    · rw [Array.getElem?_eq_none hge] at h; cases h
  rw [hb.block k hk]; exact h
theorem asr {w : World} {k : Nat} {x : Obj} (h : w.heap[k]? = some x) (Z D : Array Value) (t : TypeId) : ((w.alloc (.cells Z t)).setRow w.heap.size D).heap[k]? = some x := by
  rw [World.setRow_alloc_new]; exact al h _
theorem wpList_load_row_g {P : Program} {ops : Array Oper} {rest : List Oper} {o : Oper} {a : Act} {w : World} {Q : Exit → Act → World → Prop} (hw : Region.wanted o (yielded ops a.tmps) = true) (ty : TypeId) (x : Operand) (ho : o.op = .load ty x)
    (g : Nat) (hx : a.eval x = .pointer (some ⟨g, 0, none⟩)) (t : TypeId) (cs : Array Value) (fr : Nat × Nat) (n : Nat) (el : TypeId) (hg : w.heap[g]? = some (.cells cs t fr))
    (hu : P.underlying ty = some (.array n el)) (hi : (P.info? ty).map (·.size) = some cs.size)
    (h : wpList P ops Q rest (a.put o.dst (.agg cs)) w) : wpList P ops Q (o :: rest) a w := by
  unfold wpList
  rw [if_pos hw]
  exact Or.inl (wp_load_row ty x ho g hx t cs fr _ hg hu rfl hi h)
theorem all_range_int : ∀ (xs ys : List Int), xs.length = ys.length → ((List.range xs.length).all fun i => xs.getD i 0 == ys.getD i 0) = (xs == ys)
  | [], [], _ => rfl
  | x :: xs, y :: ys, h => by
    have ih := all_range_int xs ys (by simpa using h)
    rw [List.length_cons, List.range_succ_eq_map, List.all_cons, List.all_map]
    simp only [List.getD_cons_zero, Function.comp_def, List.getD_cons_succ, ih]
    simp [List.cons_beq_cons]
  | [], _ :: _, h => by simp at h
  | _ :: _, [], h => by simp at h
theorem run_equalIn_ca {P : Program} (w : World) (d : Nat) (t e : TypeId) (n : Nat) (ht : P.underlying t = some (.array n e)) (he : P.underlying e = some (.int .u64)) (hsz : ∀ w, (sizeOf e).run P w = .ok 1 w)
    (xs ys : List Int) (hx : xs.length = n) (hy : ys.length = n) :
    (Op.equalIn (d + 2) t (.agg (ca xs)) (.agg (ca ys))).run P w = .ok (xs == ys) w := by
  rw [← all_range_int xs ys (hx.trans hy.symm), hx, List.range_eq_range', Op.equalIn]
  simp only [Sem.run_bind, run_underlying ht, Result.andThen_ok, hsz, Std.Legacy.Range.forIn_eq_forIn_range', Std.Legacy.Range.size, Nat.sub_zero, Nat.add_sub_cancel, Nat.div_one]
  have hl : ∀ i ∈ List.range' 0 n 1, i < n := fun i hi => by simpa using (List.mem_range'_1.1 hi).2
  generalize List.range' 0 n 1 = l at hl ⊢
  induction l with
  | nil => simp
  | cons i l ih =>
    have hi : i < n := hl i (by simp)
    have px : (part e (ca xs) (i * 1)).run P w = .ok (.int .u64 (xs.getD i 0)) w := by
      simp [part, ca, isAgg, run_underlying he, List.getD, List.getElem?_eq_getElem (show i < xs.length by omega)]
    have py : (part e (ca ys) (i * 1)).run P w = .ok (.int .u64 (ys.getD i 0)) w := by
      simp [part, ca, isAgg, run_underlying he, List.getD, List.getElem?_eq_getElem (show i < ys.length by omega)]
    have pe : (Op.equalIn (d + 1) e (.int .u64 (xs.getD i 0)) (.int .u64 (ys.getD i 0))).run P w = .ok (xs.getD i 0 == ys.getD i 0) w := by
      rw [run_equalIn_int w d e .u64 .u64 _ _ he]
    simp only [List.forIn_cons, Sem.run_bind, px, py, pe, Result.andThen_ok, List.all_cons]
    cases hb : (xs.getD i 0 == ys.getD i 0)
    · simp
    · simp only [Bool.not_true, Bool.false_eq_true, if_false, Sem.run_pure, Result.andThen_ok, Bool.true_and]
      exact ih fun j hj => hl j (by simp [hj])
theorem size22 (w : World) : (sizeOf 22).run Try.prog w = .ok 1 w := by
  obtain ⟨i0, hi, hz0, hz1, hz2⟩ := info_parts info22
  simp [sizeOf, typeInfo, hi, hz1, go_sem]
theorem run_eq24 (xs ys : List Int) (hx : xs.length = 8) (hy : ys.length = 8) (w : World) :
    (Op.equalIn 10000 24 (.agg (ca xs)) (.agg (ca ys))).run Try.prog w = .ok (xs == ys) w :=
  run_equalIn_ca w 9998 24 22 8 Try.underlying24 Try.underlying22 size22 xs ys hx hy
theorem ptC_len {C : List Int} (hC : C.length = 8) (i v : Int) : (ptC C i v).length = 8 := by
  unfold ptC
  split <;> simp [hC]

set_option maxHeartbeats 4000000 in
theorem words_walk (C : List Int) (hC : C.length = 8) (hw : ∀ x ∈ C, (Lit.int .u64 x).wf = true) (i : Int) (wi : (Lit.int .i64 i).wf = true) (v : Int) (wv : (Lit.int .u64 v).wf = true) (w : World) :
    Calls Try.prog 3 #[.agg (ca C), .int .i64 i, .int .u64 v] w fun e w' => e = .returned (.bool true) ∧ Below w.heap.size w w' := by
  have hD := ptC_len hC i v
  generalize hDe : ptC C i v = D at hD
  have hb := (Below.refl w.heap.size w).alloc (Nat.le_refl _) (.cells (ca C) 24)
  have hx := heap_alloc_new w (.cells (ca C) 24)
  go_enter Try.func3, Try.ntmps3
  go_wp2_with (first
    | (refine wpList_load_row rfl 24 _ rfl w.heap.size rfl 24 (ca C) (0, 0) _ hx Try.underlying24 rfl (i24 hC) ?_)
    | (refine wpList_store_row rfl 24 _ _ rfl w.heap.size (ca D) rfl rfl 24 _ (heap_alloc_new _ _) (i24 hD) (by rw [ca_size, hD]; rfl) (ca_one _) ?_))
  refine (get_any C hC i _).mono ?_
  rintro e w1 ⟨rfl, hc⟩
  have hx1 := hbk hc hx
  have hb1 := hb.trans (hc.mono hb.size)
  clear hc hx hb
  go_wp2_with (first
    | (refine wpList_load_row rfl 24 _ rfl w.heap.size rfl 24 (ca C) (0, 0) _ hx1 Try.underlying24 rfl (i24 hC) ?_)
    | (refine wpList_store_row rfl 24 _ _ rfl w.heap.size (ca D) rfl rfl 24 _ (heap_alloc_new _ _) (i24 hD) (by rw [ca_size, hD]; rfl) (ca_one _) ?_))
  refine (rget_any C hC i _).mono ?_
  rintro e w2 ⟨rfl, hc⟩
  have hx2 := hbk hc hx1
  have hb2 := hb1.trans (hc.mono hb1.size)
  clear hc hx1 hb1
  go_wp2_with (first
    | (refine wpList_load_row rfl 24 _ rfl w.heap.size rfl 24 (ca C) (0, 0) _ hx2 Try.underlying24 rfl (i24 hC) ?_)
    | (refine wpList_store_row rfl 24 _ _ rfl w.heap.size (ca D) rfl rfl 24 _ (heap_alloc_new _ _) (i24 hD) (by rw [ca_size, hD]; rfl) (ca_one _) ?_))
  refine (put_any C hC i v _).mono ?_
  rw [hDe]
  rintro e w3 ⟨rfl, hc⟩
  have hx3 := asr (hbk hc hx2)
  have hb3 := hb2.trans (hc.mono hb2.size)
  clear hc hx2 hb2
  go_wp2_with (first
    | (refine wpList_load_row rfl 24 _ rfl w.heap.size rfl 24 (ca C) (0, 0) _ (hx3 _ _ _) Try.underlying24 rfl (i24 hC) ?_)
    | (refine wpList_store_row rfl 24 _ _ rfl w3.heap.size (ca D) rfl rfl 24 _ (heap_alloc_new _ _) (i24 hD) (by rw [ca_size, hD]; rfl) (ca_one _) ?_))
  refine (rput_any C hC i v _).mono ?_
  rw [hDe, World.setRow_alloc_new]
  rintro e w4 ⟨rfl, hc⟩
  have hy := hbk hc (heap_alloc_new w3 (.cells (ca D) 24))
  have hb4 := hb3.alloc hb3.size (.cells (ca D) 24)
  have hb5 := hb4.trans (hc.mono hb4.size)
  clear hc hx3 hb3 hb4
  have hy2 := asr hy
  have heq : ∀ W, (Op.equalIn 10000 24 (.agg (ca D)) (.agg (ca D))).run Try.prog W = .ok true W := fun W => by simpa using run_eq24 D D hD hD W
  go_wp2_with (first
    | (refine wpList_store_row rfl 24 _ _ rfl w4.heap.size (ca D) rfl rfl 24 _ (heap_alloc_new _ _) (i24 hD) (by rw [ca_size, hD]; rfl) (ca_one _) ?_)
    | (refine wpList_load_row_g rfl 24 _ rfl w3.heap.size rfl 24 (ca D) (0, 0) 8 22 (hy2 _ _ _) Try.underlying24 (i24 hD) ?_)
    | (refine wpList_load_row_g rfl 24 _ rfl w4.heap.size rfl 24 (ca D) (0, 0) 8 22 (setRow_heap _ _ _ _ _ _ (heap_alloc_new _ _)) Try.underlying24 (i24 hD) ?_))
  rw [World.setRow_alloc_new]
  refine (awake_any _).mono ?_
  rintro e w5 ⟨rfl, hc⟩
  go_wp2_with fail
  go_ret
  have hb6 := hb5.alloc hb5.size (.cells (ca D) 24)
  exact ⟨rfl, hb6.trans (hc.mono hb6.size)⟩
end Go.Proofs.Ytgibkebdkhildaa
