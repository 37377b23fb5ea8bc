/- What the printed functions of chapter 33 come to, in closed form; ReclaimSteps. Conditions: enough rounds. -/
import Derived.Test.YtikejheoakhojaaM9
import Derived.Test.YtikejheoakhojaaPAx5
import Derived.Test.YtikejheoakhojaaPAx6
import Derived.Test.YtikejheoakhojaaPAx7
import Derived.Test.YtikejheoakhojaaPAx8
import Derived.Test.YtikejheoakhojaaPAx9
namespace Go.Proofs.Ytikejheoakhojaa.PA
open Go.RowKit Go.Proofs.YtikejheoakhojaaW.PrintWords Go.Proofs.YtikejheoakhojaaW.PrintLast
set_option linter.unusedVariables false
set_option linter.unusedSimpArgs false

theorem upto_l0 (hi : Int) (l : List Int) (hl : l.length ≤ 1000000) : ∀ (n j k : Nat), j + n = l.length → n + 1 ≤ k → headgateref33_upto.l0 k hi l (j : Int) = some ((l.drop j).all (inB 0 hi)) := by
 intro n
 induction n with
 | zero =>
  intro j k hj hk
  obtain ⟨k, rfl⟩ : ∃ m, k = m + 1 := ⟨k - 1, by omega⟩
  simp only [headgateref33_upto.l0]
  rw [if_neg (by omega), List.drop_of_length_le (by omega)]
  rfl
 | succ n ih =>
  intro j k hj hk
  obtain ⟨k, rfl⟩ : ∃ m, k = m + 1 := ⟨k - 1, by omega⟩
  have hlt : j < l.length := by omega
  have hw : wrap64 ((j : Int) + 1) = ((j + 1 : Nat) : Int) := by unfold wrap64; omega
  simp only [headgateref33_upto.l0]
  rw [if_pos (by omega), if_pos (by omega), rd_nat l j hlt, hw, ih (j + 1) k (by omega) (by omega), List.drop_eq_getElem_cons hlt, List.all_cons]
  by_cases h1 : l[j] < 0
  ·rw [if_pos h1, show inB 0 hi l[j] = false by simp [inB]; omega]; rfl
  ·rw [if_neg h1]
   by_cases h2 : l[j] > hi
   ·rw [if_pos h2, show inB 0 hi l[j] = false by simp [inB]; omega]; rfl
   ·rw [if_neg h2, show inB 0 hi l[j] = true by simp [inB]; omega]; rfl
theorem upto_f (hi : Int) (l : List Int) (hl : l.length ≤ 1000000) (k : Nat) (hk : l.length + 2 ≤ k) : headgateref33_upto.f k hi l = some (l.all (inB 0 hi)) :=
 upto_l0 hi l hl l.length 0 k (by omega) (by omega)
theorem chk_j0 (k : Nat) (hk : 10 ≤ k) (A B C D : Int) (E : Bool) (F G H I : Int) (J : Bool) (L M N O P : Int) (b : Bool) : reclaim_Check.j0 (k + 2) b A B C D E F G H I J L M N O P =
   some (if b = true ∨ ¬ ((inB 1 16 M && inB 0 M L && inB 0 32 N && inB 0 32 O) = true) then 2 else if J = true ∧ H = 0 then 3 else 0) := by
 have j1 : ∀ b, reclaim_Check.j1 (k + 1) b A B C D E F G H I J L M N O P = some (if b = true then 2 else if J = true ∧ H = 0 then 3 else 0) := by
  intro b
  rw [reclaim_Check.j1]
  cases b <;> cases J <;> by_cases h : H = 0 <;> simp [h]
 rw [show k + 2 = (k + 1) + 1 from rfl, reclaim_Check.j0]
 cases b
 ·rw [if_neg (by simp), in_f _ _ _ (by simp) _ (by simp; omega), in_f _ _ _ (by simp) _ (by simp; omega), in_f _ _ _ (by simp) _ (by simp; omega)]
  simp only [Option.bind_some, j1, List.all_cons, List.all_nil, Bool.and_true]
  cases inB 1 16 M <;> cases inB 0 M L <;> cases inB 0 32 N <;> cases inB 0 32 O <;> simp
 ·simp
theorem rchk_f (k : Nat) (hk : 20 ≤ k) (A B C D : Int) (E : Bool) (F G H I : Int) (J : Bool) (L M N O P : Int) :
  headgateref33_Check.f k A B C D E F G H I J L M N O P = some (chkE (Ty.mk A B C D E F G H I J L M N O P)) := by
 obtain ⟨k, rfl⟩ : ∃ m, k = m + 2 := ⟨k - 2, by omega⟩
 have j1 : ∀ b, headgateref33_Check.j1 (k + 1) b A B C D E F G H I J L M N O P = some (if b = true ∨ ¬ ((inB 0 32 N && inB 0 32 O) = true) then 2 else if J = true ∧ H = 0 then 3 else 0) := by
  intro b
  rw [headgateref33_Check.j1]
  cases b
  ·rw [if_neg (by simp), upto_f _ _ (by simp) _ (by simp; omega)]
   simp only [Option.bind_some, List.all_cons, List.all_nil, Bool.and_true]
   cases inB 0 32 N <;> cases inB 0 32 O <;> cases J <;> by_cases h : H = 0 <;> simp [h]
  ·simp
 have j0 : ∀ b, headgateref33_Check.j0 (k + 2) b A B C D E F G H I J L M N O P =
   some (if b = true ∨ ¬ ((inB 1 16 M && inB 0 M L && inB 0 32 N && inB 0 32 O) = true) then 2 else if J = true ∧ H = 0 then 3 else 0) := by
  intro b
  rw [show k + 2 = (k + 1) + 1 from rfl, headgateref33_Check.j0]
  have e1 : inB 1 16 M = (!decide (M < 1) && !decide (M > 16)) := by by_cases h1 : M < 1 <;> by_cases h2 : M > 16 <;> simp [inB, h1, h2] <;> omega
  have e2 : inB 0 M L = (!decide (L < 0) && !decide (L > M)) := by by_cases h1 : L < 0 <;> by_cases h2 : L > M <;> simp [inB, h1, h2] <;> omega
  rw [e1, e2]
  simp only [j1]
  generalize inB 0 32 N = b12
  generalize inB 0 32 O = b13
  generalize (if J = true ∧ H = 0 then (3 : Int) else 0) = z
  cases b
  ·by_cases h1 : M < 1
   ·simp [h1]
   ·by_cases h2 : M > 16
    ·simp [h1, h2]
    ·by_cases h3 : L < 0
     ·simp [h1, h2, h3]
     ·by_cases h4 : L > M <;> simp [h1, h2, h3, h4]
  ·simp
 rw [← chk_f (k + 2) hk]
 unfold headgateref33_Check.f reclaim_Check.f
 rw [upto_f _ _ (by simp) _ (by simp; omega), in_f _ _ _ (by simp) _ (by simp; omega)]
 have jj : ∀ b, headgateref33_Check.j0 (k + 2) b A B C D E F G H I J L M N O P = reclaim_Check.j0 (k + 2) b A B C D E F G H I J L M N O P := by
  intro b
  rw [j0, chk_j0 k (by omega)]
 simp only [jj]

theorem hind_f (k : Nat) (hk : 40 ≤ k) (A B C D : Int) (E : Bool) (F G H I : Int) (J : Bool) (L M N O P : Int) (hc : chkE (Ty.mk A B C D E F G H I J L M N O P) = 0) :
  headgateref33_Hinders.f k A B C D E F G H I J L M N O P = some (hdF G H L M O P, 0) := by
 have hok := Ty.Ok.of_chk hc
 unfold Ty.Ok at hok
 simp only at hok
 obtain ⟨k, rfl⟩ : ∃ m, k = m + 3 := ⟨k - 3, by omega⟩
 have j2 : ∀ l : List Int, l.length < 10 → headgateref33_Hinders.j2 (k + 1) l A B C D E F G H I J L M N O P = some (l ++ (if O = 0 then [3] else []) ++ (if P = 0 then [4] else []), 0) := by
  intro l hl
  rw [headgateref33_Hinders.j2]
  by_cases h1 : O = 0
  ·rw [if_pos h1, if_pos (by omega)]
   simp only [Option.bind_some]
   by_cases h2 : P = 0
   ·rw [if_pos h2, if_pos (by simp; omega), if_pos h1, if_pos h2]
   ·rw [if_neg h2, if_pos h1, if_neg h2, List.append_nil]
  ·rw [if_neg h1]
   by_cases h2 : P = 0
   ·rw [if_pos h2, if_pos (by omega), if_neg h1, if_pos h2, List.append_nil]
   ·rw [if_neg h2, if_neg h1, if_neg h2, List.append_nil, List.append_nil]
 have j1 : ∀ l : List Int, l.length < 9 → headgateref33_Hinders.j1 (k + 2) l A B C D E F G H I J L M N O P = some (l ++ (if L = M then [2] else []) ++ (if O = 0 then [3] else []) ++ (if P = 0 then [4] else []), 0) := by
  intro l hl
  rw [show k + 2 = (k + 1) + 1 from rfl, headgateref33_Hinders.j1]
  by_cases h1 : L = M
  ·rw [if_pos h1, if_pos (by omega), j2 _ (by simp; omega), if_pos h1]
  ·rw [if_neg h1, j2 _ (by omega), if_neg h1, List.append_nil]
 have j0 : ∀ b, headgateref33_Hinders.j0 (k + 3) ([] : List Int) b A B C D E F G H I J L M N O P = some ((if b = true then [1] else []) ++ (if L = M then [2] else []) ++ (if O = 0 then [3] else []) ++ (if P = 0 then [4] else []), 0) := by
  intro b
  rw [show k + 3 = (k + 2) + 1 from rfl, headgateref33_Hinders.j0]
  cases b
  ·rw [if_neg (by simp), j1 _ (by simp)]; simp
  ·rw [if_pos rfl, if_pos (by simp), j1 _ (by simp)]; simp
 unfold headgateref33_Hinders.f
 rw [rchk_f _ (by omega), hc]
 simp only [Option.bind_some, if_true, j0]
 have hm : (mxI G H == 0) = (G == 0 && H == 0) := by
  have hq : mxI G H = 0 ↔ (G = 0 ∧ H = 0) := by unfold mxI; split <;> omega
  rw [Bool.eq_iff_iff]
  simp [hq]
 have hF : hdF G H L M O P = (if (G == 0 && H == 0) = true then [1] else []) ++ (if L = M then [2] else []) ++ (if O = 0 then [3] else []) ++ (if P = 0 then [4] else []) := by
  unfold hdF hdB
  rw [hm]
  generalize (G == 0 && H == 0) = b
  by_cases h2 : L = M <;> by_cases h3 : O = 0 <;> by_cases h4 : P = 0 <;> cases b <;> simp [hdTo, h2, h3, h4]
 rw [hF]
 by_cases h6 : G = 0
 ·rw [if_pos h6]; simp [h6]
 ·rw [if_neg h6]; simp [h6]
theorem may_f (k : Nat) (hk : 40 ≤ k) (A B C D : Int) (E : Bool) (F G H I : Int) (J : Bool) (L M N O P : Int) (hc : chkE (Ty.mk A B C D E F G H I J L M N O P) = 0) :
  headgateref33_may.f k A B C D E F G H I J L M N O P = some (wrF G H L M O P) := by
 unfold headgateref33_may.f
 rw [hind_f k hk _ _ _ _ _ _ _ _ _ _ _ _ _ _ _ hc]
 simp only [Option.bind_some]
 congr 1
 unfold wrF
 cases hdF G H L M O P with
 | nil => rfl
 | cons x l =>
  have h1 : ((((x :: l).length : Nat) : Int) == 0) = false := by simp; omega
  have h2 : ((x :: l).length == 0) = false := by simp
  rw [h1, h2]
theorem rdir_f (k : Nat) (hk : 40 ≤ k) (A B C D : Int) (E : Bool) (F G H I : Int) (J : Bool) (L M N O P : Int) (hc : chkE (Ty.mk A B C D E F G H I J L M N O P) = 0) :
  headgateref33_direct.f k A B C D E F G H I J L M N O P = some (dirF F G H L M N O P) := by
 unfold headgateref33_direct.f dirF
 rw [may_f k hk _ _ _ _ _ _ _ _ _ _ _ _ _ _ _ hc]
 simp only [Option.bind_some]
 by_cases h1 : F > 0
 ·rw [if_pos h1, if_pos (show obF F = true by simp [obF]; omega)]
 ·rw [if_neg h1, if_neg (show ¬ obF F = true by simp [obF]; omega)]
  cases wrF G H L M O P
  ·have hq : 0 < mxI L N ↔ (0 < L ∨ 0 < N) := by unfold mxI; split <;> omega
   rw [if_neg (show ¬ (false = true) by decide), if_neg (show ¬ (false = true) by decide)]
   by_cases h2 : L > 0
   ·rw [if_pos h2, if_pos (show flF L N = true by simp [flF, hq]; omega)]
   ·rw [if_neg h2]
    by_cases h3 : N > 0
    ·rw [if_pos h3, if_pos (show flF L N = true by simp [flF, hq]; omega)]
    ·rw [if_neg h3, if_neg (show ¬ flF L N = true by simp [flF, hq]; omega)]
  ·rw [if_pos rfl, if_pos rfl]
theorem rbg_f (k : Nat) (hk : 60 ≤ k) (A B C D : Int) (E : Bool) (F G H I : Int) (J : Bool) (L M N O P : Int) (hc : chkE (Ty.mk A B C D E F G H I J L M N O P) = 0) :
  headgateref33_Background.f k A B C D E F G H I J L M N O P = some (bgF E F G H I J L M O P, 0) := by
 obtain ⟨k, rfl⟩ : ∃ m, k = m + 2 := ⟨k - 2, by omega⟩
 have j1 : ∀ b, headgateref33_Background.j1 (k + 1) b A B C D E F G H I J L M N O P = some (if b = true then 3 else if inF G H L M O P = true then 4 else 0, 0) := by
  intro b
  rw [headgateref33_Background.j1, may_f k (by omega) _ _ _ _ _ _ _ _ _ _ _ _ _ _ _ hc]
  simp only [Option.bind_some]
  unfold inF
  generalize wrF G H L M O P = q
  cases b <;> cases q <;> by_cases h : H > 0 <;> simp [h]
 have j0 : ∀ b, headgateref33_Background.j0 (k + 2) b A B C D E F G H I J L M N O P = some (if b = true then 2 else if spF H J = true then 3 else if inF G H L M O P = true then 4 else 0, 0) := by
  intro b
  rw [show k + 2 = (k + 1) + 1 from rfl, headgateref33_Background.j0]
  simp only [j1]
  unfold spF
  cases b <;> cases J <;> by_cases h : H > 0 <;> simp [h]
 unfold headgateref33_Background.f
 rw [rchk_f _ (by omega), hc]
 simp only [Option.bind_some, if_true, j0]
 unfold bgF bgT obF deF
 cases E
 ·simp
 ·by_cases h1 : F > 0
  ·simp [h1]
  ·by_cases h2 : H < I <;> by_cases h3 : G > 0 <;> simp [h1, h2, h3]
theorem sameInts (l : List Int) (hl : l.length ≤ 1000000) (k : Nat) (hk : l.length + 2 ≤ k) : headgatekit_SameInts.f k l l = some true := by
 have aux : ∀ (n j k : Nat), j + n = l.length → n + 1 ≤ k → headgatekit_SameInts.l0 k l l (j : Int) = some true := by
  intro n
  induction n with
  | zero =>
   intro j k hj hk
   obtain ⟨k, rfl⟩ : ∃ m, k = m + 1 := ⟨k - 1, by omega⟩
   simp only [headgatekit_SameInts.l0]
   rw [if_neg (by omega)]
  | succ n ih =>
   intro j k hj hk
   obtain ⟨k, rfl⟩ : ∃ m, k = m + 1 := ⟨k - 1, by omega⟩
   have hw : wrap64 ((j : Int) + 1) = ((j + 1 : Nat) : Int) := by unfold wrap64; omega
   simp only [headgatekit_SameInts.l0]
   rw [if_pos (by omega), if_pos (by omega), if_pos (by omega), if_pos trivial, hw]
   exact ih (j + 1) k (by omega) (by omega)
 unfold headgatekit_SameInts.f
 rw [if_pos rfl]
 exact aux l.length 0 k (by omega) (by omega)

theorem pdirect (k : Nat) (hk : 60 ≤ k) (A B C D : Int) (E : Bool) (F G H I : Int) (J : Bool) (L M N O P c : Int) (hc : chkE (Ty.mk A B C D E F G H I J L M N O P) = c) :
  reclaim_Direct.f k A B C D E F G H I J L M N O P = some (if c = 0 then (dirF F G H L M N O P, 0) else (0, c)) ∧
  headgateref33_Direct.f k A B C D E F G H I J L M N O P = some (if c = 0 then (dirF F G H L M N O P, 0) else (0, c)) := by
 unfold reclaim_Direct.f headgateref33_Direct.f reclaim_tally_direct.f
 rw [chk_f k (by omega), rchk_f k (by omega), hc]
 simp only [Option.bind_some]
 by_cases h : c = 0
 ·rw [if_pos h, if_pos h, if_pos h, rdir_f k (by omega) _ _ _ _ _ _ _ _ _ _ _ _ _ _ _ (hc.trans h)]
  exact ⟨rfl, rfl⟩
 ·rw [if_neg h, if_neg h, if_neg h]
  exact ⟨rfl, rfl⟩
theorem pbackground (k : Nat) (hk : 60 ≤ k) (A B C D : Int) (E : Bool) (F G H I : Int) (J : Bool) (L M N O P c : Int) (hc : chkE (Ty.mk A B C D E F G H I J L M N O P) = c) :
  reclaim_Background.f k A B C D E F G H I J L M N O P = some (if c = 0 then (bgF E F G H I J L M O P, 0) else (0, c)) ∧
  headgateref33_Background.f k A B C D E F G H I J L M N O P = some (if c = 0 then (bgF E F G H I J L M O P, 0) else (0, c)) := by
 by_cases h : c = 0
 ·rw [rbg_f k (by omega) _ _ _ _ _ _ _ _ _ _ _ _ _ _ _ (hc.trans h), if_pos h]
  unfold reclaim_Background.f reclaim_tally_background.f
  rw [chk_f k (by omega), hc.trans h]
  exact ⟨rfl, rfl⟩
 ·unfold reclaim_Background.f headgateref33_Background.f
  rw [chk_f k (by omega), rchk_f k (by omega), hc]
  simp only [Option.bind_some]
  rw [if_neg h, if_neg h, if_neg h]
  exact ⟨rfl, rfl⟩
theorem phinders (k : Nat) (hk : 60 ≤ k) (A B C D : Int) (E : Bool) (F G H I : Int) (J : Bool) (L M N O P c : Int) (hc : chkE (Ty.mk A B C D E F G H I J L M N O P) = c) :
  reclaim_Hinders.f k A B C D E F G H I J L M N O P = some (if c = 0 then (hdF G H L M O P, 0) else ([], c)) ∧
  headgateref33_Hinders.f k A B C D E F G H I J L M N O P = some (if c = 0 then (hdF G H L M O P, 0) else ([], c)) := by
 by_cases h : c = 0
 ·rw [hind_f k (by omega) _ _ _ _ _ _ _ _ _ _ _ _ _ _ _ (hc.trans h), if_pos h]
  unfold reclaim_Hinders.f reclaim_tally_hinders.f
  rw [chk_f k (by omega), hc.trans h]
  exact ⟨rfl, rfl⟩
 ·unfold reclaim_Hinders.f headgateref33_Hinders.f
  rw [chk_f k (by omega), rchk_f k (by omega), hc]
  simp only [Option.bind_some]
  rw [if_neg h, if_neg h, if_neg h]
  exact ⟨rfl, rfl⟩
theorem pwakes (k : Nat) (hk : 60 ≤ k) (A B C D : Int) (E : Bool) (F G H I : Int) (J : Bool) (L M N O P : Int) :
  ∃ r, reclaim_Wakes.f k A B C D E F G H I J L M N O P = some r ∧ headgateref33_Wakes.f k A B C D E F G H I J L M N O P = some r := by
 unfold reclaim_Wakes.f headgateref33_Wakes.f
 rw [chk_f k (by omega), rchk_f k (by omega)]
 simp only [Option.bind_some]
 generalize chkE _ = c
 by_cases h : c = 0
 ·rw [if_pos h]
  by_cases h1 : A < C
  ·rw [if_pos h1]; exact ⟨_, rfl, rfl⟩
  ·rw [if_neg h1]
   by_cases h2 : A < D
   ·rw [if_pos h2]; exact ⟨_, rfl, rfl⟩
   ·rw [if_neg h2]; exact ⟨_, rfl, rfl⟩
 ·rw [if_neg h]
  exact ⟨_, rfl, rfl⟩
theorem pstuck (k : Nat) (hk : 60 ≤ k) (A B C D : Int) (E : Bool) (F G H I : Int) (J : Bool) (L M N O P : Int) :
  ∃ r, reclaim_Stuck.f k A B C D E F G H I J L M N O P = some r ∧ headgateref33_Stuck.f k A B C D E F G H I J L M N O P = some r := by
 obtain ⟨h1, h2⟩ := pdirect k hk A B C D E F G H I J L M N O P _ rfl
 unfold reclaim_Stuck.f headgateref33_Stuck.f
 rw [h1, h2]
 simp only [Option.bind_some]
 generalize chkE _ = c
 by_cases h : c = 0
 ·rw [if_pos h]; exact ⟨_, rfl, rfl⟩
 ·rw [if_neg h]
  simp only
  rw [if_neg h]
  exact ⟨_, rfl, rfl⟩
end Go.Proofs.Ytikejheoakhojaa.PA
