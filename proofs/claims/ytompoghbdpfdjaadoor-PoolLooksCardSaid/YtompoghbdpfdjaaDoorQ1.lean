/- The reference's functions in closed form; the plain laws PoolMakes, PoolChanges, PoolLooks. Conditions: enough rounds. -/
import Derived.Test.YtompoghbdpfdjaaDoorPAx8
import Derived.Test.YtompoghbdpfdjaaDoorM6
namespace Go.Proofs.YtompoghbdpfdjaaDoor.PA
open Go.RowKit Go.Proofs.YtompoghbdpfdjaaDoorW.PrintWords Go.Proofs.YtompoghbdpfdjaaDoorW.PrintLast Go.Proofs.YtompoghbdpfdjaaDoorW.PrintMore
set_option linter.unusedVariables false
set_option linter.unusedSimpArgs false

theorem bind_eq {α β : Type} {x : Option α} {f : α → Option β} {a : α} {r : Option β} (h : x = some a) (k : f a = r) : x.bind f = r := by rw [h]; exact k
theorem ite_eq {α : Type} {p : Prop} [Decidable p] {x y r : α} (h : p) (k : x = r) : (if p then x else y) = r := by rw [if_pos h]; exact k
theorem ite_ne {α : Type} {p : Prop} [Decidable p] {x y r : α} (h : ¬ p) (k : y = r) : (if p then x else y) = r := by rw [if_neg h]; exact k
theorem rnew_l0 (n : Nat) (hn : n ≤ 1000) : ∀ (m j k : Nat), j + m = n → m + 1 ≤ k → headgateref14_New.l0 k (n : Int) (j : Int) (n : Int) (upto j) = some ((n : Int), upto n, 0) := by
  intro m
  induction m with
  | zero =>
    intro j k hj hk
    obtain ⟨k, rfl⟩ : ∃ m, k = m + 1 := ⟨k - 1, by omega⟩
    obtain rfl : j = n := by omega
    rw [headgateref14_New.l0, if_neg (by omega)]
  | succ m ih =>
    intro j k hj hk
    obtain ⟨k, rfl⟩ : ∃ m, k = m + 1 := ⟨k - 1, by omega⟩
    rw [headgateref14_New.l0, if_pos (by omega), if_pos (by rw [upto_len]; omega), w64s (show j < n by omega) (by omega), ← upto_succ]
    exact ih (j + 1) k (by omega) (by omega)
theorem rnew (a : Int) (k : Nat) (hk : 40 ≤ k) : headgateref14_New.f k a = some (newE a) := by
  refine bind_eq (szd a) ?_
  unfold newE
  by_cases c : a < 1 ∨ 32 < a
  · rw [if_pos c]
    exact ite_ne (by simp; omega) rfl
  · rw [if_neg c]
    obtain ⟨n, rfl⟩ : ∃ n : Nat, a = (n : Int) := ⟨a.toNat, by omega⟩
    refine ite_eq (by simp; omega) ?_
    rw [Int.toNat_natCast]
    exact rnew_l0 n (by omega) n 0 k (by omega) (by omega)
theorem rframes (a : Int) : headgateref14_Frames.f a = some (frmE a) := by
  refine bind_eq (szd a) ?_
  unfold frmE
  by_cases c : a < 1 ∨ 32 < a
  · rw [if_pos c]
    exact ite_ne (by simp; omega) rfl
  · rw [if_neg c]
    refine ite_eq (by simp; omega) ?_
    have e : wrap64 (Int.tdiv (wrap64 (a + 7)) 8) = (a - 1) / 8 + 1 := by
      have e1 : wrap64 (a + 7) = a + 7 := by unfold wrap64; omega
      rw [e1, Int.tdiv_eq_ediv_of_nonneg (by omega)]
      unfold wrap64
      omega
    rw [e]
theorem same_l0 (l : List Int) (hl : l.length ≤ 1000) : ∀ (m j k : Nat), j + m = l.length → m + 1 ≤ k → headgatekit_SameInts.l0 k l l (j : Int) = some true := by
  intro m
  induction m with
  | zero =>
    intro j k hj hk
    obtain ⟨k, rfl⟩ : ∃ m, k = m + 1 := ⟨k - 1, by omega⟩
    rw [headgatekit_SameInts.l0, if_neg (by omega)]
  | succ m ih =>
    intro j k hj hk
    obtain ⟨k, rfl⟩ : ∃ m, k = m + 1 := ⟨k - 1, by omega⟩
    rw [headgatekit_SameInts.l0, if_pos (by omega), if_pos (by omega), if_pos (by omega), if_pos rfl, w64s (show j < l.length by omega) (by omega)]
    exact ih (j + 1) k (by omega) (by omega)
theorem same (l : List Int) (hl : l.length ≤ 1000) (k : Nat) (hk : l.length + 1 ≤ k) : headgatekit_SameInts.f k l l = some true := by
  unfold headgatekit_SameInts.f
  rw [if_pos rfl]
  exact same_l0 l hl l.length 0 k (by omega) (by omega)
theorem samep (a : Int) (l : List Int) (hl : l.length ≤ 1000) (k : Nat) (hk : l.length + 1 ≤ k) : headgatekit_SamePool.f k a l a l = some true := by
  unfold headgatekit_SamePool.f
  rw [if_pos rfl, same l hl k hk]
  rfl
theorem awake_k (k : Nat) (hk : 80 ≤ k) : headgatelaw14_awake.f k = some true := at_rounds headgatelaw14_awake.mono hk (by decide +kernel)
theorem newE_len (a : Int) : (newE a).2.1.length ≤ 32 := by
  unfold newE
  split
  · exact Nat.zero_le _
  · simp only [upto_len]; omega
theorem makes_pure : headgatelaw14_PoolMakes.Pure := by
  intro a wa
  refine ⟨100, ?_⟩
  unfold headgatelaw14_PoolMakes.f
  refine bind_eq (show pool_New.f 100 a = some (newE a) from rfl) ?_
  refine bind_eq (rnew a 100 (by omega)) ?_
  refine bind_eq (show pool_Frames.f a = some (frmE a) from rfl) ?_
  refine bind_eq (rframes a) ?_
  refine bind_eq (samep _ _ (by have := newE_len a; omega) 100 (by have := newE_len a; omega)) ?_
  refine ite_eq rfl (ite_eq rfl (ite_eq rfl (ite_eq rfl ?_)))
  exact bind_eq (awake_k 100 (by omega)) rfl

theorem rask (sz : Int) (l : List Int) (d : Int) (hl : l.length ≤ 1000) (k : Nat) (hk : 2 * l.length + 2 ≤ k) : headgateref14_asked.f k sz l d = some (askE sz l d) := by
  refine bind_eq (rchk sz l hl k hk) ?_
  unfold askE
  by_cases h : (chkE sz l).1 = 0
  · rw [if_pos h, if_pos h]
    by_cases c : d < 0
    · rw [if_pos c, if_pos (.inl c)]
    · rw [if_neg c]
      by_cases e : d ≥ sz
      · rw [if_pos e, if_pos (.inr e)]
      · rw [if_neg e, if_neg (by omega), h]
  · rw [if_neg h, if_neg h]
theorem rtake (sz : Int) (l : List Int) (hl : l.length ≤ 1000) (k : Nat) (hk : 2 * l.length + 2 ≤ k) : headgateref14_Take.f k sz l = some (takE sz l) := by
  refine bind_eq (rchk sz l hl k hk) ?_
  unfold takE
  by_cases h : (chkE sz l).1 = 0
  · rw [if_pos h, if_pos h]
    cases l with
    | nil => rfl
    | cons x t =>
      refine ite_ne (by simp; omega) ?_
      refine bind_eq rfl ?_
      refine ite_eq (by simp <;> omega) (ite_eq (by simp at hl ⊢; omega) (ite_eq (by simp <;> omega) ?_))
      simp [tk0, rd]
  · rw [if_neg h, if_neg h]
theorem rfree_l0 (sz : Int) (l : List Int) (d : Int) (hl : l.length ≤ 1000) : ∀ (m j k : Nat), j + m = l.length → m + 1 ≤ k → headgateref14_free.l0 k d (j : Int) sz l = some (decide (d ∈ l.drop j)) := by
  intro m
  induction m with
  | zero =>
    intro j k hj hk
    obtain ⟨k, rfl⟩ : ∃ m, k = m + 1 := ⟨k - 1, by omega⟩
    rw [headgateref14_free.l0, if_neg (by omega), List.drop_of_length_le (by omega)]
    rfl
  | succ m ih =>
    intro j k hj hk
    obtain ⟨k, rfl⟩ : ∃ m, k = m + 1 := ⟨k - 1, by omega⟩
    have hlt : j < l.length := by omega
    rw [headgateref14_free.l0, if_pos (by omega), if_pos (by omega), rd_opt, List.getElem?_eq_getElem hlt, Option.getD_some, w64s hlt (by omega)]
    have hdr : l.drop j = l[j] :: l.drop (j + 1) := List.drop_eq_getElem_cons hlt
    rw [hdr]
    by_cases e : l[j] = d
    · rw [if_pos e]; simp [e]
    · rw [if_neg e, ih (j + 1) k (by omega) (by omega)]
      have e2 : ¬ d = l[j] := fun h => e h.symm
      refine congrArg some (decide_eq_decide.2 ?_)
      rw [List.mem_cons]
      exact ⟨fun h => .inr h, fun h => h.resolve_left e2⟩
theorem rfree (sz : Int) (l : List Int) (d : Int) (hl : l.length ≤ 1000) (k : Nat) (hk : l.length + 1 ≤ k) : headgateref14_free.f k sz l d = some (decide (d ∈ l)) := by
  have := rfree_l0 sz l d hl l.length 0 k (by omega) (by omega)
  rw [List.drop_zero] at this
  exact this
theorem flt_len (p : Int → Bool) (n : Nat) : ((upto n).filter p).length ≤ n := Nat.le_trans (List.length_filter_le _ _) (by rw [upto_len]; omega)
theorem rgive_l0 (n : Nat) (hn : n ≤ 32) (l : List Int) (d : Int) (hl : l.length ≤ 1000) : ∀ (m j k : Nat), j + m = n → m + l.length + 2 ≤ k →
    headgateref14_Give.l0 k d (j : Int) (n : Int) l (n : Int) ((upto j).filter (fun i => decide (i = d) || decide (i ∈ l))) = some ((n : Int), (upto n).filter (fun i => decide (i = d) || decide (i ∈ l)), 0) := by
  intro m
  induction m with
  | zero =>
    intro j k hj hk
    obtain ⟨k, rfl⟩ : ∃ m, k = m + 1 := ⟨k - 1, by omega⟩
    obtain rfl : j = n := by omega
    rw [headgateref14_Give.l0, if_neg (by omega)]
  | succ m ih =>
    intro j k hj hk
    obtain ⟨k, rfl⟩ : ∃ m, k = m + 1 := ⟨k - 1, by omega⟩
    have hn := ih (j + 1) k (by omega) (by omega)
    have hf := flt_len (fun i => decide (i = d) || decide (i ∈ l)) j
    rw [upto_succ, List.filter_append] at hn
    rw [headgateref14_Give.l0, if_pos (by omega), w64s (show j < n by omega) (by omega)]
    by_cases e : (j : Int) = d
    · rw [if_pos e, if_pos (by omega)]
      rw [show List.filter (fun i => decide (i = d) || decide (i ∈ l)) [(j : Int)] = [(j : Int)] by simp [e]] at hn
      exact hn
    · rw [if_neg e]
      refine bind_eq (rfree (n : Int) l (j : Int) hl k (by omega)) ?_
      by_cases q : (j : Int) ∈ l
      · refine ite_eq (decide_eq_true q) (ite_eq (by omega) ?_)
        rw [show List.filter (fun i => decide (i = d) || decide (i ∈ l)) [(j : Int)] = [(j : Int)] by simp [q]] at hn
        exact hn
      · refine ite_ne (by simp [q]) ?_
        rw [show List.filter (fun i => decide (i = d) || decide (i ∈ l)) [(j : Int)] = [] by simp [q, e], List.append_nil] at hn
        exact hn
theorem chk_of_ask {sz : Int} {l : List Int} {d : Int} (h : askE sz l d = 0) : (chkE sz l).1 = 0 := by
  unfold askE at h
  by_cases z : (chkE sz l).1 = 0
  · exact z
  · rw [if_neg z] at h; exact absurd h z
theorem rgive (sz : Int) (l : List Int) (d : Int) (hl : l.length ≤ 1000) (k : Nat) (hk : 2 * l.length + 40 ≤ k) : headgateref14_Give.f k sz l d = some (givE sz l d) := by
  refine bind_eq (rask sz l d hl k (by omega)) ?_
  unfold givE
  by_cases h : askE sz l d = 0
  · rw [if_pos h, if_pos h]
    refine bind_eq (rfree sz l d hl k (by omega)) ?_
    by_cases q : d ∈ l
    · rw [if_pos q]
      exact ite_eq (decide_eq_true q) rfl
    · rw [if_neg q]
      refine ite_ne (by simp [q]) ?_
      have hc := chkE_ok (chk_of_ask h)
      obtain ⟨n, rfl⟩ : ∃ n : Nat, sz = (n : Int) := ⟨sz.toNat, by omega⟩
      rw [Int.toNat_natCast]
      exact rgive_l0 n (by omega) l d hl n 0 k (by omega) (by omega)
  · rw [if_neg h, if_neg h]
theorem rtaken_l0 (n : Nat) (hn : n ≤ 32) (l : List Int) (hl : l.length ≤ 1000) : ∀ (m j k : Nat), j + m = n → m + l.length + 2 ≤ k →
    headgateref14_Taken.l0 k ((upto j).filter (fun i => !decide (i ∈ l))) (j : Int) (n : Int) l = some ((upto n).filter (fun i => !decide (i ∈ l)), 0) := by
  intro m
  induction m with
  | zero =>
    intro j k hj hk
    obtain ⟨k, rfl⟩ : ∃ m, k = m + 1 := ⟨k - 1, by omega⟩
    obtain rfl : j = n := by omega
    rw [headgateref14_Taken.l0, if_neg (by omega)]
  | succ m ih =>
    intro j k hj hk
    obtain ⟨k, rfl⟩ : ∃ m, k = m + 1 := ⟨k - 1, by omega⟩
    have hn := ih (j + 1) k (by omega) (by omega)
    have hf := flt_len (fun i => !decide (i ∈ l)) j
    rw [upto_succ, List.filter_append] at hn
    rw [headgateref14_Taken.l0, if_pos (by omega), w64s (show j < n by omega) (by omega)]
    refine bind_eq (rfree (n : Int) l (j : Int) hl k (by omega)) ?_
    by_cases q : (j : Int) ∈ l
    · refine ite_eq (decide_eq_true q) ?_
      rw [show List.filter (fun i => !decide (i ∈ l)) [(j : Int)] = [] by simp [q], List.append_nil] at hn
      exact hn
    · refine ite_ne (by simp [q]) (ite_eq (by omega) ?_)
      rw [show List.filter (fun i => !decide (i ∈ l)) [(j : Int)] = [(j : Int)] by simp [q]] at hn
      exact hn
theorem rtaken (sz : Int) (l : List Int) (hl : l.length ≤ 1000) (k : Nat) (hk : 2 * l.length + 40 ≤ k) : headgateref14_Taken.f k sz l = some (tkdE sz l) := by
  refine bind_eq (rchk sz l hl k (by omega)) ?_
  unfold tkdE
  by_cases h : (chkE sz l).1 = 0
  · rw [if_pos h, if_pos h]
    have hc := chkE_ok h
    obtain ⟨n, rfl⟩ : ∃ n : Nat, sz = (n : Int) := ⟨sz.toNat, by omega⟩
    rw [Int.toNat_natCast]
    exact rtaken_l0 n (by omega) l hl n 0 k (by omega) (by omega)
  · rw [if_neg h, if_neg h]
theorem ask_range {sz : Int} {l : List Int} {d : Int} (h : askE sz l d = 0) : 0 ≤ d ∧ d < sz ∧ sz ≤ 32 := by
  have c := chk_of_ask h
  have := (chkE_ok c).2.1
  unfold askE at h
  rw [if_pos c] at h
  by_cases z : d < 0 ∨ sz ≤ d
  · rw [if_pos z] at h; exact absurd h (by decide)
  · omega
theorem rhome (sz : Int) (l : List Int) (d : Int) (hl : l.length ≤ 1000) (k : Nat) (hk : 2 * l.length + 40 ≤ k) : headgateref14_Home.f k sz l d = some (homE sz l d) := by
  refine bind_eq (rask sz l d hl k (by omega)) ?_
  unfold homE
  by_cases h : askE sz l d = 0
  · rw [if_pos h, if_pos h]
    have hr := ask_range h
    have e1 : wrap64 (Int.tdiv d 8) = d / 8 := by
      rw [Int.tdiv_eq_ediv_of_nonneg (by omega)]; unfold wrap64; omega
    have e2 : Int.tmod d 8 = d % 8 := Int.tmod_eq_emod_of_nonneg (by omega)
    rw [e1, e2]
  · rw [if_neg h, if_neg h]
theorem own (sz : Int) (l : List Int) (hl : l.length ≤ 1000) : headgatekit_OwnPool.f sz l = some (sz, l) := by
  refine bind_eq rfl ?_
  exact ite_eq (by simp; omega) rfl
theorem takE_len (sz : Int) (l : List Int) : (takE sz l).2.1.length ≤ l.length := by
  unfold takE
  split
  · cases l <;> simp [tk0]
  · exact Nat.zero_le _
theorem givE_len (sz : Int) (l : List Int) (d : Int) : (givE sz l d).2.1.length ≤ 32 := by
  unfold givE
  split
  · rename_i h
    split
    · exact Nat.zero_le _
    · have := flt_len (fun i => decide (i = d) || decide (i ∈ l)) sz.toNat
      have := ask_range h
      show ((upto sz.toNat).filter _).length ≤ 32
      omega
  · exact Nat.zero_le _
theorem tkdE_len (sz : Int) (l : List Int) : (tkdE sz l).1.length ≤ 32 := by
  unfold tkdE
  split
  · rename_i h
    have := flt_len (fun i => !decide (i ∈ l)) sz.toNat
    have := chkE_ok h
    show ((upto sz.toNat).filter _).length ≤ 32
    omega
  · exact Nat.zero_le _
theorem changes_pure (sz : Int) (l : List Int) (d : Int) : ∃ k, headgatelaw14_PoolChanges.f k sz l d = some true := by
  refine ⟨501, ?_⟩
  unfold headgatelaw14_PoolChanges.f
  by_cases h : (l.length : Int) > 60
  · rw [if_pos h]
    exact bind_eq (awake_k 501 (by omega)) rfl
  · rw [if_neg h]
    have hl : l.length ≤ 1000 := by omega
    refine bind_eq (own sz l hl) ?_
    refine bind_eq (pchk sz l hl 501 (by omega)) ?_
    refine bind_eq (rchk sz l hl 501 (by omega)) ?_
    refine ite_eq rfl ?_
    rw [show ((chkE sz l).2 != (chkE sz l).2) = false by simp, show (501 : Nat) = 500 + 1 from rfl, headgatelaw14_PoolChanges.j0]
    refine ite_ne (by decide) ?_
    refine bind_eq (show pool_Take.f 500 sz l = some (takE sz l) from onE_of hl _) ?_
    refine bind_eq (rtake sz l hl 500 (by omega)) ?_
    refine bind_eq (show pool_Give.f 500 sz l d = some (givE sz l d) from onE_of hl _) ?_
    refine bind_eq (rgive sz l d hl 500 (by omega)) ?_
    refine bind_eq (samep _ _ (by have := takE_len sz l; omega) 500 (by have := takE_len sz l; omega)) ?_
    refine ite_eq rfl (ite_eq rfl (ite_eq rfl ?_))
    refine bind_eq (samep _ _ (by have := givE_len sz l d; omega) 500 (by have := givE_len sz l d; omega)) ?_
    refine ite_eq rfl (ite_eq rfl ?_)
    refine bind_eq (samep sz l hl 500 (by omega)) ?_
    refine ite_eq rfl ?_
    exact bind_eq (awake_k 500 (by omega)) rfl
theorem looks_pure (sz : Int) (l : List Int) (d : Int) : ∃ k, headgatelaw14_PoolLooks.f k sz l d = some true := by
  refine ⟨501, ?_⟩
  unfold headgatelaw14_PoolLooks.f
  by_cases h : (l.length : Int) > 60
  · rw [if_pos h]
    exact bind_eq (awake_k 501 (by omega)) rfl
  · rw [if_neg h]
    have hl : l.length ≤ 1000 := by omega
    refine bind_eq (own sz l hl) ?_
    have e1 : pool_Left.f 501 sz l = headgateref14_Left.f 501 sz l := by
      unfold pool_Left.f headgateref14_Left.f
      rw [pchk sz l hl 501 (by omega), rchk sz l hl 501 (by omega)]
    obtain ⟨q, hq⟩ : ∃ q, headgateref14_Left.f 501 sz l = some q := by
      unfold headgateref14_Left.f
      rw [rchk sz l hl 501 (by omega), Option.bind_some]
      split <;> exact ⟨_, rfl⟩
    refine bind_eq (e1.trans hq) ?_
    refine bind_eq hq ?_
    refine ite_eq rfl ?_
    rw [show (q.2 != q.2) = false by simp, show (501 : Nat) = 500 + 1 from rfl, headgatelaw14_PoolLooks.j0]
    refine ite_ne (by decide) ?_
    refine bind_eq (show pool_Taken.f 500 sz l = some (tkdE sz l) from onE_of hl _) ?_
    refine bind_eq (rtaken sz l hl 500 (by omega)) ?_
    refine bind_eq (show pool_Home.f 500 sz l d = some (homE sz l d) from onE_of hl _) ?_
    refine bind_eq (rhome sz l d hl 500 (by omega)) ?_
    refine bind_eq (same _ (by have := tkdE_len sz l; omega) 500 (by have := tkdE_len sz l; omega)) ?_
    refine ite_eq rfl (ite_eq rfl (ite_eq rfl (ite_eq rfl (ite_eq rfl ?_))))
    refine bind_eq (samep sz l hl 500 (by omega)) ?_
    refine ite_eq rfl ?_
    exact bind_eq (awake_k 500 (by omega)) rfl
end Go.Proofs.YtompoghbdpfdjaaDoor.PA
