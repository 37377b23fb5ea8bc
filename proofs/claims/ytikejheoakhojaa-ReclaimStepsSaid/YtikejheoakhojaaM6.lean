/- reclaim.Steps (function 27), walked over the iterator of plans. Conditions: a small tally; what the contracts of Check and of tally.after say. -/
import Derived.Test.YtikejheoakhojaaM5
import Derived.RangeFuncWrites
import Derived.Test.YtikejheoakhojaaM3
namespace Go.Proofs.Ytikejheoakhojaa
open Go.RowKit Go.Shelf
attribute [local go_sem] Oper.semAt_some   -- for this text's walks alone
set_option linter.unusedVariables false
set_option linter.unusedSimpArgs false

/-- the number of steps before the first that waits or kills -/
def Ty.cnt : Nat → Ty → Int
  | 0, _ => 0
  | n + 1, t => if t.dir = 5 ∨ t.dir = 6 then 0 else 1 + Ty.cnt n (t.aft t.dir)
/-- the first steps of a plan -/
def Ty.plan : Nat → Ty → List Int
  | 0, _ => []
  | n + 1, t => if t.dir = 6 then [6] else t.dir :: Ty.plan n (t.aft t.dir)
theorem Ty.at_aft (t : Ty) : ∀ k, (t.aft t.dir).at k = t.at (k + 1) := by
  intro k
  induction k with
  | zero => rfl
  | succ k ih => simp only [Ty.at] at *; rw [ih]
theorem Ty.cnt_at : ∀ (n k : Nat) (t : Ty), k < n → (∀ j, j < k → (t.at j).dir ≠ 5 ∧ (t.at j).dir ≠ 6) → ((t.at k).dir = 5 ∨ (t.at k).dir = 6) → Ty.cnt n t = k := by
  intro n
  induction n with
  | zero => intro k t h; omega
  | succ n ih =>
    intro k t hk hb he
    unfold Ty.cnt
    cases k with
    | zero =>
      have he' : t.dir = 5 ∨ t.dir = 6 := he
      rw [if_pos he']; rfl
    | succ k =>
      have h0 := hb 0 (by omega)
      have h0' : t.dir ≠ 5 ∧ t.dir ≠ 6 := h0
      rw [if_neg (by omega), ih k _ (by omega) (fun j hj => by rw [Ty.at_aft]; exact hb (j + 1) (by omega)) (by rw [Ty.at_aft]; exact he)]
      omega
theorem Ty.plan_at : ∀ (n k : Nat) (t : Ty), (∀ j, j < k → (t.at j).dir ≠ 6) → (k + 1 = n ∨ (k < n ∧ (t.at k).dir = 6)) → Ty.plan n t = t.steps (k + 1) := by
  intro n
  induction n with
  | zero => intro k t hb h; omega
  | succ n ih =>
    intro k t hb h
    have hs : ∀ m, t.steps (m + 1) = t.dir :: (t.aft t.dir).steps m := by
      intro m
      unfold Ty.steps
      rw [List.range_succ_eq_map, List.map_cons, List.map_map]
      show t.dir :: _ = _
      congr 1
      refine List.map_congr_left fun j _ => ?_
      show (t.at (j + 1)).dir = _
      rw [Ty.at_aft]
    unfold Ty.plan
    by_cases h6 : t.dir = 6
    · rw [if_pos h6]
      cases k with
      | zero => rw [hs 0]; simp [Ty.steps, h6]
      | succ k => exact absurd h6 (hb 0 (by omega))
    · rw [if_neg h6, hs k]
      cases k with
      | zero =>
        rcases h with h | h
        · obtain rfl : n = 0 := by omega
          simp [Ty.plan, Ty.steps]
        · exact absurd h.2 h6
      | succ k =>
        rw [ih k _ (fun j hj => by rw [Ty.at_aft]; exact hb (j + 1) (by omega)) (by rw [Ty.at_aft]; omega)]
/-- steps that neither wait nor kill wear the tally down -/
theorem dir_cases (t : Ty) : (t.dir = 1 ∧ 0 < t.f5) ∨ (t.dir = 4 ∧ t.f14 ≠ 0) ∨ t.dir = 5 ∨ t.dir = 6 := by
  unfold Ty.dir dirF
  by_cases h1 : obF t.f5 = true
  · rw [if_pos h1]; exact .inl ⟨rfl, by simpa [obF] using h1⟩
  · rw [if_neg h1]
    by_cases h2 : wrF t.f6 t.f7 t.f10 t.f11 t.f13 t.f14 = true
    · rw [if_pos h2]; exact .inr (.inl ⟨rfl, ((wrF_iff _ _ _ _ _ _).1 h2).2.2.2⟩)
    · rw [if_neg h2]
      split
      · exact .inr (.inr (.inl rfl))
      · exact .inr (.inr (.inr rfl))
theorem worn {t : Ty} (h : t.Ok) : ∀ k, (∀ j, j < k → (t.at j).dir ≠ 5 ∧ (t.at j).dir ≠ 6) → (t.at k).f5 + (t.at k).f14 + (k : Int) ≤ t.f5 + t.f14 := by
  intro k
  induction k with
  | zero => intro _; show t.f5 + t.f14 + ((0 : Nat) : Int) ≤ _; omega
  | succ k ih =>
    intro hb
    have h1 := ih (fun j hj => hb j (by omega))
    have h2 := hb k (by omega)
    have hk := h.at k
    have hd := dir_cases (t.at k)
    show ((t.at k).aft (t.at k).dir).f5 + ((t.at k).aft (t.at k).dir).f14 + _ ≤ _
    generalize t.at k = s at *
    unfold Ty.Ok at hk
    unfold Ty.aft
    rcases hd with ⟨e, hp⟩ | ⟨e, hp⟩ | e | e
    · rw [e, if_pos rfl]
      simp only
      split <;> omega
    · rw [e, if_neg (by omega), if_pos rfl]
      split <;> (simp only; omega)
    · exact absurd e h2.1
    · exact absurd e h2.2
theorem worn_le {t : Ty} (h : t.Ok) (k : Nat) (hb : ∀ j, j < k → (t.at j).dir ≠ 5 ∧ (t.at j).dir ≠ 6) : k < 600 := by
  have h1 := worn h k hb
  have h2 := h.at k
  unfold Ty.Ok at h h2
  omega
theorem plan_any (t : Ty) (w : World) : Calls Try.prog 44 #[.agg t.c] w fun e w' => e = .returned (.func (.func 54) #[] #[.pointer (some ⟨w.heap.size, 0, none⟩)]) ∧ w' = w.alloc (.cells t.c 46) := by
  go_enter Try.func44, Try.ntmps44
  go_wp2
  go_ret
  exact ⟨rfl, rfl⟩

theorem set_below (Bn n : Nat) (h : n ≤ Bn) (W : World) (v : Value) : Below n W (W.setCell ⟨Bn, 0, none⟩ v) :=
  ⟨rfl, rfl, rfl, (KeepsWalks.setCell W _ v).size, fun k hk => Below.heap_setCell _ _ _ k (by show k ≠ Bn; omega)⟩
/-- a count kept in an int -/
def nW : Nat → Int
  | 0 => 0
  | k + 1 => wrap64 (nW k + 1)
theorem nW_eq : ∀ k : Nat, k < 1000 → nW k = k := by
  intro k
  induction k with
  | zero => intro _; rfl
  | succ k ih =>
    intro h
    show wrap64 (nW k + 1) = _
    rw [ih (by omega)]
    unfold wrap64
    omega
theorem mem_steps (t : Ty) {j k : Nat} (h : j < k) : (t.at j).dir ∈ t.steps k := List.mem_map.2 ⟨j, List.mem_range.2 h, rfl⟩
theorem blk_ownF {β : Type} (B0 Bm : Nat) (f : β → Obj) (hf : ∀ b, (f b).isCells = true) : OwnFrom B0 (fun (b : β) W => W.heap[Bm]? = some (f b)) := fun s A B row hs hg hr =>
  (hg.block Bm (Array.getElem?_eq_some_iff.1 hs).1 (fun e => by obtain ⟨_, o, ho, hc⟩ := hr Bm e.symm; rw [hs] at ho; cases ho; rw [hf] at hc; cases hc)).trans hs
theorem steps_keep {Bt Bm : Nat} {A B : World} {x : Obj} (hs : StepsAt Bt A B) (hne : Bm ≠ Bt) (h : A.heap[Bm]? = some x) : B.heap[Bm]? = some x :=
  (hs.block Bm (Array.getElem?_eq_some_iff.1 h).1 (fun e => hne (Option.some.inj e))).trans h
theorem steps_belowN {Bt n : Nat} {w A B : World} (hs : StepsAt Bt A B) (hn : n ≤ Bt) (hA : n ≤ A.heap.size) (h : Below n w A) : Below n w B :=
  h.trans ⟨hs.os, hs.tape, hs.output, hs.size, fun k hk => hs.block k (by omega) (fun e => by have := Option.some.inj e; omega)⟩

set_option maxRecDepth 100000 in
set_option maxHeartbeats 4000000 in
theorem steps_ok (t : Ty) (hok : t.Ok) (HA : AfterC) (w : World) (hck : ∀ w1, Calls Try.prog 11 #[.agg t.c] w1 fun e w2 => e = .returned (.int .i64 0) ∧ Below w1.heap.size w1 w2) :
    Calls Try.prog 27 #[.agg t.c] w fun e w' => e = .returned (.tuple #[.int .i64 (Ty.cnt 1000 t), .int .i64 0]) ∧ Below w.heap.size w w' := by
  have hb0 := (Below.refl w.heap.size w).alloc (Nat.le_refl _) (.cells t.c 23)
  have HCK := hid hck
  have HP := hid (plan_any t)
  have hL : ∀ W : World, W.heap[w.heap.size]? = some (.cells t.c 23 (0, 0)) → (loadVar 23 ⟨w.heap.size, 0, none⟩).run Try.prog W = .ok (.agg t.c) W := fun W hW => run_loadVar_row W _ 23 23 _ (0, 0) _ hW Try.underlying23 rfl (by kernel_rfl)
  have hg1 : (w.alloc (.cells t.c 23)).heap[w.heap.size]? = some (.cells t.c 23 (0, 0)) := World.alloc_heap_new w _
  have HG1 := hid hg1
  have HL := hid hL
  have HB0 := hid hb0
  have HOK := hid hok
  clear hck hL hg1 hb0
  refine (callsIn_wide (n := 4)).1 ?_
  refine callsIn_of_wp_marks Try.func27 rfl trivial ?_ rfl
  simp only [Try.ntmps27, List.size_toArray, List.length_cons, List.length_nil, Nat.reduceAdd, Nat.reduceSub, Array.replicate_succ, Array.replicate_zero, List.push_toArray, List.append_toArray, List.nil_append, List.cons_append]
  generalize hcc : t.c = c0 at *
  have HCC := hid hcc
  clear hcc
  gi_wp2_with (first
    | (refine wpListIn_load_row _ rfl 23 _ rfl w.heap.size rfl _ (HL.out _ HG1.out) ?_)
    | (refine wpListIn_load_row _ rfl 23 _ rfl w.heap.size rfl _ (HL.out _ (al hg2.out _)) ?_)
    | (refine ⟨trivial, ?_⟩; gi_at_call 11; refine (callsIn_wide.2 (HCK.out _)).mono ?_; rintro e w2 ⟨rfl, hb2⟩; have hg2 := hid ((hb2.block w.heap.size (Array.getElem?_eq_some_iff.1 HG1.out).1).trans HG1.out))
    | (refine ⟨trivial, ?_⟩; gi_at_call 44; refine (callsIn_wide.2 (HP.out _)).mono ?_; rintro e w3 ⟨rfl, rfl⟩))
  have hlt2 : w.heap.size < w2.heap.size := (Array.getElem?_eq_some_iff.1 hg2.out).1
  have hB2 : Below w.heap.size w w2 := HB0.out.trans (hb2.mono (by simp))
  have hB4 : Below w.heap.size w ((w2.alloc (.cells #[.int .i64 0] 3)).alloc (.cells c0 46)) := (hB2.alloc (by omega) _).alloc (by simp; omega) _
  have bN : ((w2.alloc (.cells #[.int .i64 0] 3)).alloc (.cells c0 46)).heap[w2.heap.size]? = some (.cells #[.int .i64 0] 3 (0, 0)) := al (World.alloc_heap_new w2 _) _
  have bT : ((w2.alloc (.cells #[.int .i64 0] 3)).alloc (.cells c0 46)).heap[w2.heap.size + 1]? = some (.cells c0 46 (0, 0)) := by
    have := World.alloc_heap_new (w2.alloc (.cells #[.int .i64 0] 3)) (.cells c0 46)
    rwa [World.size_alloc] at this
  have hsz : ((w2.alloc (.cells #[.int .i64 0] 3)).alloc (.cells c0 46)).heap.size = w2.heap.size + 2 := by simp
  have hcc := HCC.out
  subst hcc
  refine range_at rfl (by omega) (gf := 54) (lb := #[.pointer (some ⟨w2.heap.size + 1, 0, none⟩)]) rfl trivial (enters_of Try.func54 (by kernel_rfl) rfl)
    (w2.heap.size + 1) (by omega) (encs := fun x : Int => #[.int .i64 x]) (S := fun xs => ∃ k, xs = t.steps (k + 1) ∧ (t.at k).dir = 6 ∧ ∀ j, j < k → (t.at j).dir ≠ 6) (Sp := fun pre => ∃ k, pre = t.steps (k + 1) ∧ ∀ j, j < k → (t.at j).dir ≠ 6) (fun _ => rfl)
    (fun pre W => (∀ x ∈ pre, x ≠ 5 ∧ x ≠ 6) ∧ W.heap[w2.heap.size]? = some (.cells #[.int .i64 (nW pre.length)] 3 (0, 0)) ∧ Below w.heap.size w W)
    (fun c pre W => (c = .exit 0 ∧ ∃ p x, pre = p ++ [x] ∧ (x = 5 ∨ x = 6) ∧ (∀ y ∈ p, y ≠ 5 ∧ y ≠ 6)) ∧ W.heap[w2.heap.size]? = some (.cells #[.int .i64 (nW (pre.length - 1))] 3 (0, 0)) ∧ Below w.heap.size w W)
    (OwnFrom.and (fun _ _ _ _ hs _ _ => hs) (OwnFrom.and (blk_ownF _ _ (fun pre : List Int => .cells #[.int .i64 (nW pre.length)] 3 (0, 0)) (fun _ => rfl)) (ownFrom_below (Nat.le_refl _) (by omega))))
    (fun c => OwnFrom.and (fun _ _ _ _ hs _ _ => hs) (OwnFrom.and (blk_ownF _ _ (fun pre : List Int => .cells #[.int .i64 (nW (pre.length - 1))] 3 (0, 0)) (fun _ => rfl)) (ownFrom_below (Nat.le_refl _) (by omega))))
    (fun s A B hs ht => ⟨hs.1, steps_keep ht (by omega) hs.2.1, steps_belowN ht (by omega) hs.2.2.size hs.2.2⟩)
    (fun c s A B hs ht => ⟨hs.1, steps_keep ht (by omega) hs.2.1, steps_belowN ht (by omega) hs.2.2.size hs.2.2⟩)
    (fun l J Jx W hW hJ hJx hJI hY h0 => plan1_in l (w2.heap.size + 1) t hok HA 600 J Jx hJ
      (fun k W' hj => worn_le hok k (fun j hjk => (hJI _ _ hj).1 _ (mem_steps t hjk))) hY W ((hW.block _ (by omega)).trans bT) h0)
    ⟨by simp, bN, hB4⟩
    (fun x => { tmps := #[.agg t.c, .pointer (some ⟨w.heap.size, 0, none⟩), .int .i64 0, .int .i64 0, .int .i64 0, .pointer (some ⟨w2.heap.size, 0, none⟩), .int .i64 x, .agg t.c, .int .i64 0, .int .i64 0, .bool false, undef, .agg t.c, .func (.func 54) #[] #[.pointer (some ⟨w2.heap.size + 1, 0, none⟩)], .int .i64 x, undef, undef, undef, undef, undef, undef, undef, undef, undef], defers := [] }) ?assign ?body ?done ?stop
  case assign =>
    intro l x W K hK
    gi_wp2
    exact hK
  case body =>
    rintro l pre x W ⟨hno, hn, hB⟩
    have hbx : Boxed W w2.heap.size 3 (.int .i64 (nW pre.length)) := hn
    have hc := hbx.cell
    have hf := hbx.frozen
    have HN := hid hn
    have HNO := hid hno
    have HBB := hid hB
    clear hn hno hB
    by_cases h5 : x = 5
    · subst h5
      gi_wp2
      exact ⟨KeepsFrom.refl _ _, ⟨rfl, pre, 5, rfl, .inl rfl, HNO.out⟩, by rw [List.length_append]; exact HN.out, HBB.out⟩
    · by_cases h6 : x = 6
      · subst h6
        gi_wp2
        exact ⟨KeepsFrom.refl _ _, ⟨rfl, pre, 6, rfl, .inr rfl, HNO.out⟩, by rw [List.length_append]; exact HN.out, HBB.out⟩
      · have e5 : (x == 5) = false := by simp [h5]
        have e6 : (x == 6) = false := by simp [h6]
        gi_wp2
        refine ⟨KeepsFrom.of_grownBy (grownBy_setCell' W w2.heap.size _) (fun j e => by have := Option.some.inj e; omega), Below.heap_setCell _ _ _ _ (by show w2.heap.size + 1 ≠ w2.heap.size; omega), ?_, ?_, ?_⟩
        · intro y hy
          rcases List.mem_append.1 hy with h | h
          · exact HNO.out y h
          · rw [List.mem_singleton.1 h]; exact ⟨h5, h6⟩
        · rw [List.length_append]
          exact hbx.set _
        · exact HBB.out.trans (set_below w2.heap.size w.heap.size (by omega) W _)
  case done =>
    rintro D xs W hD ⟨k, rfl, h6, -⟩ ⟨hno, -⟩ -
    exact absurd h6 (hno _ (mem_steps t (Nat.lt_succ_self k))).2
  case stop =>
    rintro D c pre W hD ⟨k, rfl, -⟩ ⟨⟨rfl, p, x, hp, hx, hno⟩, hn, hB⟩ hK
    have hbx : Boxed W w2.heap.size 3 (.int .i64 (nW ((t.steps (k + 1)).length - 1))) := hn
    have hc := hbx.cell
    rw [Ty.steps_len, Nat.add_sub_cancel] at hc
    have HP2 := hid hp
    have HX := hid hx
    have HNO := hid hno
    clear hp hx hno hbx hn
    gi_wp2
    have hxe := HP2.out
    rw [Ty.steps_succ] at hxe
    obtain ⟨rfl, hx1⟩ := List.append_inj' hxe rfl
    obtain rfl : (t.at k).dir = x := by simpa using hx1
    have hk6 : k < 600 := worn_le hok k (fun j hj => HNO.out _ (mem_steps t hj))
    have hcnt : nW k = Ty.cnt 1000 t := by rw [Ty.cnt_at 1000 k t (by omega) (fun j hj => HNO.out _ (mem_steps t hj)) HX.out, nW_eq k (by omega)]
    rw [hcnt]
    refine ⟨by simp, .inl ⟨_, _, rfl, run_takeDeferred hK, ?_⟩⟩
    exact ⟨_, results_tmp2 rfl _ _ _, rfl, hB.trans (belowK_b (w := w) (Nat.le_refl _) W D _ _ (by simp at hD; omega) hK rfl rfl)⟩

set_option maxRecDepth 100000 in
set_option maxHeartbeats 4000000 in
theorem steps_err (t : Ty) (er : Int) (her : er ≠ 0) (w : World) (hck : ∀ w1, Calls Try.prog 11 #[.agg t.c] w1 fun e w2 => e = .returned (.int .i64 er) ∧ Below w1.heap.size w1 w2) :
    Calls Try.prog 27 #[.agg t.c] w fun e w' => e = .returned (.tuple #[.int .i64 0, .int .i64 er]) ∧ Below w.heap.size w w' := by
  have hb0 := (Below.refl w.heap.size w).alloc (Nat.le_refl _) (.cells t.c 23)
  have HCK := hid hck
  have hL : ∀ W : World, W.heap[w.heap.size]? = some (.cells t.c 23 (0, 0)) → (loadVar 23 ⟨w.heap.size, 0, none⟩).run Try.prog W = .ok (.agg t.c) W := fun W hW => run_loadVar_row W _ 23 23 _ (0, 0) _ hW Try.underlying23 rfl (by kernel_rfl)
  have hg1 : (w.alloc (.cells t.c 23)).heap[w.heap.size]? = some (.cells t.c 23 (0, 0)) := World.alloc_heap_new w _
  have HG1 := hid hg1
  have HL := hid hL
  have HB0 := hid hb0
  have e1 : (er != 0) = true := by simp [her]
  clear hck hL hg1 hb0 her
  refine (callsIn_wide (n := 4)).1 ?_
  refine callsIn_of_wp_marks Try.func27 rfl trivial ?_ rfl
  simp only [Try.ntmps27, List.size_toArray, List.length_cons, List.length_nil, Nat.reduceAdd, Nat.reduceSub, Array.replicate_succ, Array.replicate_zero, List.push_toArray, List.append_toArray, List.nil_append, List.cons_append]
  generalize hcc : t.c = c0 at *
  have HCC := hid hcc
  clear hcc
  gi_wp2_with (first
    | (refine wpListIn_load_row _ rfl 23 _ rfl w.heap.size rfl _ (HL.out _ HG1.out) ?_)
    | (refine ⟨trivial, ?_⟩; gi_at_call 11; refine (callsIn_wide.2 (HCK.out _)).mono ?_; rintro e w2 ⟨rfl, hb2⟩))
  exact ⟨_, results_tmp2 rfl _ _ _, rfl, HB0.out.trans (hb2.mono (by simp))⟩
end Go.Proofs.Ytikejheoakhojaa
