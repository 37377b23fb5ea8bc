import Derived.Test.YtbhbddpebhccgaaC
namespace Go.Proofs.Ytbhbddpebhccgaa
open Go.RowKit

theorem splits_walk (a : Int) (_wa : (Lit.int .i64 a).wf = true) (w : World) :
    Calls Try.prog 3 #[.int .i64 a] w fun e w' => e = .returned (.bool true) ∧ Below w.heap.size w w' := by
  by_cases h : 0 ≤ a ∧ a < 2048
  · go_enter Try.func3, Try.ntmps3
    go_wp2_with (first | (go_at_call 7; refine (split_ok a h.1 h.2 _).mono ?_; rintro e w' ⟨rfl, rfl⟩) | (go_at_call 8; refine (rsplit_ok a h.1 h.2 _).mono ?_; rintro e w' ⟨rfl, rfl⟩) | (go_at_call 9; refine (awake_any _).mono ?_; rintro e w1 ⟨rfl, hb⟩))
    go_ret
    exact ⟨rfl, by assumption⟩
  · have h' : a < 0 ∨ 2048 ≤ a := by omega
    go_enter Try.func3, Try.ntmps3
    go_wp2_with (first | (go_at_call 7; refine (split_no a h' _).mono ?_; rintro e w' ⟨rfl, rfl⟩) | (go_at_call 8; refine (rsplit_no a h' _).mono ?_; rintro e w' ⟨rfl, rfl⟩) | (go_at_call 9; refine (awake_any _).mono ?_; rintro e w1 ⟨rfl, hb⟩))
    go_ret
    exact ⟨rfl, by assumption⟩
end Go.Proofs.Ytbhbddpebhccgaa
