/- The contracts of reclaim.first at the lists of direct and background steps, and of these steps. Proved for all tallies; no condition. -/
import Derived.Test.YtikejheoakhojaaM2
namespace Go.Proofs.Ytikejheoakhojaa
open Go.RowKit
set_option linter.unusedVariables false
set_option linter.unusedSimpArgs false

set_option maxRecDepth 20000 in
set_option maxHeartbeats 4000000 in
theorem first_d_any (B cap : Nat) (a0 a1 a2 a3 : Int) (a4 : Bool) (a5 a6 a7 a8 : Int) (a9 : Bool) (a10 a11 a12 a13 a14 : Int) (w : World) (c0 : w.cell? ⟨B, 0, none⟩ = some (.int .i64 1)) (c1 : w.cell? ⟨B, 1, none⟩ = some (.func (.func 48) #[.agg #[.int .i64 a0, .int .i64 a1, .int .i64 a2, .int .i64 a3, .bool a4, .int .i64 a5, .int .i64 a6, .int .i64 a7, .int .i64 a8, .bool a9, .int .i64 a10, .int .i64 a11, .int .i64 a12, .int .i64 a13, .int .i64 a14]] #[])) (c2 : w.cell? ⟨B, 2, none⟩ = some (.int .i64 4)) (c3 : w.cell? ⟨B, 3, none⟩ = some (.func (.func 49) #[.agg #[.int .i64 a0, .int .i64 a1, .int .i64 a2, .int .i64 a3, .bool a4, .int .i64 a5, .int .i64 a6, .int .i64 a7, .int .i64 a8, .bool a9, .int .i64 a10, .int .i64 a11, .int .i64 a12, .int .i64 a13, .int .i64 a14]] #[])) (c4 : w.cell? ⟨B, 4, none⟩ = some (.int .i64 5)) (c5 : w.cell? ⟨B, 5, none⟩ = some (.func (.func 50) #[.agg #[.int .i64 a0, .int .i64 a1, .int .i64 a2, .int .i64 a3, .bool a4, .int .i64 a5, .int .i64 a6, .int .i64 a7, .int .i64 a8, .bool a9, .int .i64 a10, .int .i64 a11, .int .i64 a12, .int .i64 a13, .int .i64 a14]] #[])) :
    Calls Try.prog 47 #[.slice (some ⟨B, 0, none⟩) 3 cap, .int .i64 6] w fun e w' => e = .returned (.int .i64 (dirF a5 a6 a7 a10 a11 a12 a13 a14)) ∧ Below w.heap.size w w' := by
  unfold dirF
  generalize hB0 : (obF a5) = b0 at *
  generalize hB1 : (wrF a6 a7 a10 a11 a13 a14) = b1 at *
  generalize hB2 : (flF a10 a12) = b2 at *
  have HB0 := hid hB0
  have HB1 := hid hB1
  have HB2 := hid hB2
  clear hB0 hB1 hB2
  have C0 := hid c0
  have C1 := hid c1
  have C2 := hid c2
  have C3 := hid c3
  have C4 := hid c4
  have C5 := hid c5
  clear c0 c1 c2 c3 c4 c5
  go_enter Try.func47, Try.ntmps47
  go_wp2_with fail
  go_loopw [9] (fun i wr => ∃ k : Int, (k = 0 ∨ k = 1 ∨ k = 2 ∨ k = 3) ∧ i = .int .i64 k ∧ (1 ≤ k → b0 = false) ∧ (2 ≤ k → b1 = false) ∧ (3 ≤ k → b2 = false) ∧ Below w.heap.size w wr) (fun i _ => 3 - (intOf i).toNat)
  case atStart => exact ⟨0, by omega, rfl, fun h => absurd h (by omega), fun h => absurd h (by omega), fun h => absurd h (by omega), Below.refl _ _⟩
  case round =>
    obtain ⟨k, hk, rfl, h0, h1, h2, hb⟩ := hrel
    rcases hk with rfl | rfl | rfl | rfl
    · have x0 := kc hb C0.out
      have x1 := kc hb C1.out
      clear h0 h1 h2
      cases b0
      · go_wp2_with (go_at_call 48; refine (objects_any a0 a1 a2 a3 a4 a5 a6 a7 a8 a9 a10 a11 a12 a13 a14 _).mono ?_; rw [HB0.out]; rintro e w2 ⟨rfl, hb2⟩; have z0 : w2.cell? ⟨wr.heap.size, 0, none⟩ = some (.int .i64 1) := kc hb2 (by simp))
        exact ⟨⟨1, by omega, rfl, fun _ => (by first | rfl | trivial), fun h => absurd h (by omega), fun h => absurd h (by omega), (hb.alloc hb.size _).trans (hb2.mono (by have := hb.size; simp; omega))⟩, by simp [intOf]⟩
      · go_wp2_with (go_at_call 48; refine (objects_any a0 a1 a2 a3 a4 a5 a6 a7 a8 a9 a10 a11 a12 a13 a14 _).mono ?_; rw [HB0.out]; rintro e w2 ⟨rfl, hb2⟩; have z0 : w2.cell? ⟨wr.heap.size, 0, none⟩ = some (.int .i64 1) := kc hb2 (by simp))
        go_ret
        exact ⟨ret_int (by simp), (hb.alloc hb.size _).trans (hb2.mono (by have := hb.size; simp; omega))⟩
    · have x0 := kc hb C2.out
      have x1 := kc hb C3.out
      obtain rfl := h0 (by omega)
      clear h0 h1 h2
      cases b1
      · go_wp2_with (go_at_call 49; refine (writes_any a0 a1 a2 a3 a4 a5 a6 a7 a8 a9 a10 a11 a12 a13 a14 _).mono ?_; rw [HB1.out]; rintro e w2 ⟨rfl, hb2⟩; have z0 : w2.cell? ⟨wr.heap.size, 0, none⟩ = some (.int .i64 4) := kc hb2 (by simp))
        exact ⟨⟨2, by omega, rfl, fun _ => (by first | rfl | trivial), fun _ => (by first | rfl | trivial), fun h => absurd h (by omega), (hb.alloc hb.size _).trans (hb2.mono (by have := hb.size; simp; omega))⟩, by simp [intOf]⟩
      · go_wp2_with (go_at_call 49; refine (writes_any a0 a1 a2 a3 a4 a5 a6 a7 a8 a9 a10 a11 a12 a13 a14 _).mono ?_; rw [HB1.out]; rintro e w2 ⟨rfl, hb2⟩; have z0 : w2.cell? ⟨wr.heap.size, 0, none⟩ = some (.int .i64 4) := kc hb2 (by simp))
        go_ret
        exact ⟨ret_int (by simp), (hb.alloc hb.size _).trans (hb2.mono (by have := hb.size; simp; omega))⟩
    · have x0 := kc hb C4.out
      have x1 := kc hb C5.out
      obtain rfl := h0 (by omega)
      obtain rfl := h1 (by omega)
      clear h0 h1 h2
      cases b2
      · go_wp2_with (go_at_call 50; refine (flying_any a0 a1 a2 a3 a4 a5 a6 a7 a8 a9 a10 a11 a12 a13 a14 _).mono ?_; rw [HB2.out]; rintro e w2 ⟨rfl, hb2⟩; have z0 : w2.cell? ⟨wr.heap.size, 0, none⟩ = some (.int .i64 5) := kc hb2 (by simp))
        exact ⟨⟨3, by omega, rfl, fun _ => (by first | rfl | trivial), fun _ => (by first | rfl | trivial), fun _ => (by first | rfl | trivial), (hb.alloc hb.size _).trans (hb2.mono (by have := hb.size; simp; omega))⟩, by simp [intOf]⟩
      · go_wp2_with (go_at_call 50; refine (flying_any a0 a1 a2 a3 a4 a5 a6 a7 a8 a9 a10 a11 a12 a13 a14 _).mono ?_; rw [HB2.out]; rintro e w2 ⟨rfl, hb2⟩; have z0 : w2.cell? ⟨wr.heap.size, 0, none⟩ = some (.int .i64 5) := kc hb2 (by simp))
        go_ret
        exact ⟨ret_int (by simp), (hb.alloc hb.size _).trans (hb2.mono (by have := hb.size; simp; omega))⟩
    · obtain rfl := h0 (by omega)
      obtain rfl := h1 (by omega)
      obtain rfl := h2 (by omega)
      clear h0 h1 h2
      go_wp2_with fail
      go_ret
      exact ⟨ret_int (by simp), hb⟩

set_option maxRecDepth 20000 in
set_option maxHeartbeats 4000000 in
theorem first_b_any (B cap : Nat) (a0 a1 a2 a3 : Int) (a4 : Bool) (a5 a6 a7 a8 : Int) (a9 : Bool) (a10 a11 a12 a13 a14 : Int) (w : World) (c0 : w.cell? ⟨B, 0, none⟩ = some (.int .i64 1)) (c1 : w.cell? ⟨B, 1, none⟩ = some (.func (.func 48) #[.agg #[.int .i64 a0, .int .i64 a1, .int .i64 a2, .int .i64 a3, .bool a4, .int .i64 a5, .int .i64 a6, .int .i64 a7, .int .i64 a8, .bool a9, .int .i64 a10, .int .i64 a11, .int .i64 a12, .int .i64 a13, .int .i64 a14]] #[])) (c2 : w.cell? ⟨B, 2, none⟩ = some (.int .i64 2)) (c3 : w.cell? ⟨B, 3, none⟩ = some (.func (.func 51) #[.agg #[.int .i64 a0, .int .i64 a1, .int .i64 a2, .int .i64 a3, .bool a4, .int .i64 a5, .int .i64 a6, .int .i64 a7, .int .i64 a8, .bool a9, .int .i64 a10, .int .i64 a11, .int .i64 a12, .int .i64 a13, .int .i64 a14]] #[])) (c4 : w.cell? ⟨B, 4, none⟩ = some (.int .i64 3)) (c5 : w.cell? ⟨B, 5, none⟩ = some (.func (.func 52) #[.agg #[.int .i64 a0, .int .i64 a1, .int .i64 a2, .int .i64 a3, .bool a4, .int .i64 a5, .int .i64 a6, .int .i64 a7, .int .i64 a8, .bool a9, .int .i64 a10, .int .i64 a11, .int .i64 a12, .int .i64 a13, .int .i64 a14]] #[])) (c6 : w.cell? ⟨B, 6, none⟩ = some (.int .i64 4)) (c7 : w.cell? ⟨B, 7, none⟩ = some (.func (.func 53) #[.agg #[.int .i64 a0, .int .i64 a1, .int .i64 a2, .int .i64 a3, .bool a4, .int .i64 a5, .int .i64 a6, .int .i64 a7, .int .i64 a8, .bool a9, .int .i64 a10, .int .i64 a11, .int .i64 a12, .int .i64 a13, .int .i64 a14]] #[])) :
    Calls Try.prog 47 #[.slice (some ⟨B, 0, none⟩) 4 cap, .int .i64 0] w fun e w' => e = .returned (.int .i64 (bgT a5 a6 a7 a8 a9 a10 a11 a13 a14)) ∧ Below w.heap.size w w' := by
  unfold bgT
  generalize hB0 : (obF a5) = b0 at *
  generalize hB1 : (deF a6 a7 a8) = b1 at *
  generalize hB2 : (spF a7 a9) = b2 at *
  generalize hB3 : (inF a6 a7 a10 a11 a13 a14) = b3 at *
  have HB0 := hid hB0
  have HB1 := hid hB1
  have HB2 := hid hB2
  have HB3 := hid hB3
  clear hB0 hB1 hB2 hB3
  have C0 := hid c0
  have C1 := hid c1
  have C2 := hid c2
  have C3 := hid c3
  have C4 := hid c4
  have C5 := hid c5
  have C6 := hid c6
  have C7 := hid c7
  clear c0 c1 c2 c3 c4 c5 c6 c7
  go_enter Try.func47, Try.ntmps47
  go_wp2_with fail
  go_loopw [9] (fun i wr => ∃ k : Int, (k = 0 ∨ k = 1 ∨ k = 2 ∨ k = 3 ∨ k = 4) ∧ i = .int .i64 k ∧ (1 ≤ k → b0 = false) ∧ (2 ≤ k → b1 = false) ∧ (3 ≤ k → b2 = false) ∧ (4 ≤ k → b3 = false) ∧ Below w.heap.size w wr) (fun i _ => 4 - (intOf i).toNat)
  case atStart => exact ⟨0, by omega, rfl, fun h => absurd h (by omega), fun h => absurd h (by omega), fun h => absurd h (by omega), fun h => absurd h (by omega), Below.refl _ _⟩
  case round =>
    obtain ⟨k, hk, rfl, h0, h1, h2, h3, hb⟩ := hrel
    rcases hk with rfl | rfl | rfl | rfl | rfl
    · have x0 := kc hb C0.out
      have x1 := kc hb C1.out
      clear h0 h1 h2 h3
      cases b0
      · go_wp2_with (go_at_call 48; refine (objects_any a0 a1 a2 a3 a4 a5 a6 a7 a8 a9 a10 a11 a12 a13 a14 _).mono ?_; rw [HB0.out]; rintro e w2 ⟨rfl, hb2⟩; have z0 : w2.cell? ⟨wr.heap.size, 0, none⟩ = some (.int .i64 1) := kc hb2 (by simp))
        exact ⟨⟨1, by omega, rfl, fun _ => (by first | rfl | trivial), fun h => absurd h (by omega), fun h => absurd h (by omega), fun h => absurd h (by omega), (hb.alloc hb.size _).trans (hb2.mono (by have := hb.size; simp; omega))⟩, by simp [intOf]⟩
      · go_wp2_with (go_at_call 48; refine (objects_any a0 a1 a2 a3 a4 a5 a6 a7 a8 a9 a10 a11 a12 a13 a14 _).mono ?_; rw [HB0.out]; rintro e w2 ⟨rfl, hb2⟩; have z0 : w2.cell? ⟨wr.heap.size, 0, none⟩ = some (.int .i64 1) := kc hb2 (by simp))
        go_ret
        exact ⟨ret_int (by simp), (hb.alloc hb.size _).trans (hb2.mono (by have := hb.size; simp; omega))⟩
    · have x0 := kc hb C2.out
      have x1 := kc hb C3.out
      obtain rfl := h0 (by omega)
      clear h0 h1 h2 h3
      cases b1
      · go_wp2_with (go_at_call 51; refine (demotes_any a0 a1 a2 a3 a4 a5 a6 a7 a8 a9 a10 a11 a12 a13 a14 _).mono ?_; rw [HB1.out]; rintro e w2 ⟨rfl, hb2⟩; have z0 : w2.cell? ⟨wr.heap.size, 0, none⟩ = some (.int .i64 2) := kc hb2 (by simp))
        exact ⟨⟨2, by omega, rfl, fun _ => (by first | rfl | trivial), fun _ => (by first | rfl | trivial), fun h => absurd h (by omega), fun h => absurd h (by omega), (hb.alloc hb.size _).trans (hb2.mono (by have := hb.size; simp; omega))⟩, by simp [intOf]⟩
      · go_wp2_with (go_at_call 51; refine (demotes_any a0 a1 a2 a3 a4 a5 a6 a7 a8 a9 a10 a11 a12 a13 a14 _).mono ?_; rw [HB1.out]; rintro e w2 ⟨rfl, hb2⟩; have z0 : w2.cell? ⟨wr.heap.size, 0, none⟩ = some (.int .i64 2) := kc hb2 (by simp))
        go_ret
        exact ⟨ret_int (by simp), (hb.alloc hb.size _).trans (hb2.mono (by have := hb.size; simp; omega))⟩
    · have x0 := kc hb C4.out
      have x1 := kc hb C5.out
      obtain rfl := h0 (by omega)
      obtain rfl := h1 (by omega)
      clear h0 h1 h2 h3
      cases b2
      · go_wp2_with (go_at_call 52; refine (spares_any a0 a1 a2 a3 a4 a5 a6 a7 a8 a9 a10 a11 a12 a13 a14 _).mono ?_; rw [HB2.out]; rintro e w2 ⟨rfl, hb2⟩; have z0 : w2.cell? ⟨wr.heap.size, 0, none⟩ = some (.int .i64 3) := kc hb2 (by simp))
        exact ⟨⟨3, by omega, rfl, fun _ => (by first | rfl | trivial), fun _ => (by first | rfl | trivial), fun _ => (by first | rfl | trivial), fun h => absurd h (by omega), (hb.alloc hb.size _).trans (hb2.mono (by have := hb.size; simp; omega))⟩, by simp [intOf]⟩
      · go_wp2_with (go_at_call 52; refine (spares_any a0 a1 a2 a3 a4 a5 a6 a7 a8 a9 a10 a11 a12 a13 a14 _).mono ?_; rw [HB2.out]; rintro e w2 ⟨rfl, hb2⟩; have z0 : w2.cell? ⟨wr.heap.size, 0, none⟩ = some (.int .i64 3) := kc hb2 (by simp))
        go_ret
        exact ⟨ret_int (by simp), (hb.alloc hb.size _).trans (hb2.mono (by have := hb.size; simp; omega))⟩
    · have x0 := kc hb C6.out
      have x1 := kc hb C7.out
      obtain rfl := h0 (by omega)
      obtain rfl := h1 (by omega)
      obtain rfl := h2 (by omega)
      clear h0 h1 h2 h3
      cases b3
      · go_wp2_with (go_at_call 53; refine (inactive_any a0 a1 a2 a3 a4 a5 a6 a7 a8 a9 a10 a11 a12 a13 a14 _).mono ?_; rw [HB3.out]; rintro e w2 ⟨rfl, hb2⟩; have z0 : w2.cell? ⟨wr.heap.size, 0, none⟩ = some (.int .i64 4) := kc hb2 (by simp))
        exact ⟨⟨4, by omega, rfl, fun _ => (by first | rfl | trivial), fun _ => (by first | rfl | trivial), fun _ => (by first | rfl | trivial), fun _ => (by first | rfl | trivial), (hb.alloc hb.size _).trans (hb2.mono (by have := hb.size; simp; omega))⟩, by simp [intOf]⟩
      · go_wp2_with (go_at_call 53; refine (inactive_any a0 a1 a2 a3 a4 a5 a6 a7 a8 a9 a10 a11 a12 a13 a14 _).mono ?_; rw [HB3.out]; rintro e w2 ⟨rfl, hb2⟩; have z0 : w2.cell? ⟨wr.heap.size, 0, none⟩ = some (.int .i64 4) := kc hb2 (by simp))
        go_ret
        exact ⟨ret_int (by simp), (hb.alloc hb.size _).trans (hb2.mono (by have := hb.size; simp; omega))⟩
    · obtain rfl := h0 (by omega)
      obtain rfl := h1 (by omega)
      obtain rfl := h2 (by omega)
      obtain rfl := h3 (by omega)
      clear h0 h1 h2 h3
      go_wp2_with fail
      go_ret
      exact ⟨ret_int (by simp), hb⟩

set_option maxRecDepth 20000 in
set_option maxHeartbeats 4000000 in
theorem direct_any (a0 a1 a2 a3 : Int) (a4 : Bool) (a5 a6 a7 a8 : Int) (a9 : Bool) (a10 a11 a12 a13 a14 : Int) (w : World) :
    Calls Try.prog 35 #[.agg #[.int .i64 a0, .int .i64 a1, .int .i64 a2, .int .i64 a3, .bool a4, .int .i64 a5, .int .i64 a6, .int .i64 a7, .int .i64 a8, .bool a9, .int .i64 a10, .int .i64 a11, .int .i64 a12, .int .i64 a13, .int .i64 a14]] w fun e w' => e = .returned (.int .i64 (dirF a5 a6 a7 a10 a11 a12 a13 a14)) ∧ Below w.heap.size w w' := by
  have hb0 := ((Below.refl w.heap.size w).alloc (Nat.le_refl _) (.cells #[.int .i64 a0, .int .i64 a1, .int .i64 a2, .int .i64 a3, .bool a4, .int .i64 a5, .int .i64 a6, .int .i64 a7, .int .i64 a8, .bool a9, .int .i64 a10, .int .i64 a11, .int .i64 a12, .int .i64 a13, .int .i64 a14] 46)).alloc (by simp) (.cells #[.int .i64 1, .func (.func 48) #[.agg #[.int .i64 a0, .int .i64 a1, .int .i64 a2, .int .i64 a3, .bool a4, .int .i64 a5, .int .i64 a6, .int .i64 a7, .int .i64 a8, .bool a9, .int .i64 a10, .int .i64 a11, .int .i64 a12, .int .i64 a13, .int .i64 a14]] #[], .int .i64 4, .func (.func 49) #[.agg #[.int .i64 a0, .int .i64 a1, .int .i64 a2, .int .i64 a3, .bool a4, .int .i64 a5, .int .i64 a6, .int .i64 a7, .int .i64 a8, .bool a9, .int .i64 a10, .int .i64 a11, .int .i64 a12, .int .i64 a13, .int .i64 a14]] #[], .int .i64 5, .func (.func 50) #[.agg #[.int .i64 a0, .int .i64 a1, .int .i64 a2, .int .i64 a3, .bool a4, .int .i64 a5, .int .i64 a6, .int .i64 a7, .int .i64 a8, .bool a9, .int .i64 a10, .int .i64 a11, .int .i64 a12, .int .i64 a13, .int .i64 a14]] #[]] 61)
  go_enter Try.func35, Try.ntmps35
  go_wp2_with (go_at_call 47; refine (first_d_any _ _ a0 a1 a2 a3 a4 a5 a6 a7 a8 a9 a10 a11 a12 a13 a14 _ (by simp [go_sem]) (by simp [go_sem]) (by simp [go_sem]) (by simp [go_sem]) (by simp [go_sem]) (by simp [go_sem])).mono ?_; rintro e w2 ⟨rfl, hb2⟩)
  go_ret
  exact ⟨rfl, hb0.trans (hb2.mono hb0.size)⟩

set_option maxRecDepth 20000 in
set_option maxHeartbeats 4000000 in
theorem background_any (a0 a1 a2 a3 : Int) (a4 : Bool) (a5 a6 a7 a8 : Int) (a9 : Bool) (a10 a11 a12 a13 a14 : Int) (w : World) :
    Calls Try.prog 39 #[.agg #[.int .i64 a0, .int .i64 a1, .int .i64 a2, .int .i64 a3, .bool a4, .int .i64 a5, .int .i64 a6, .int .i64 a7, .int .i64 a8, .bool a9, .int .i64 a10, .int .i64 a11, .int .i64 a12, .int .i64 a13, .int .i64 a14]] w fun e w' => e = .returned (.int .i64 (bgF a4 a5 a6 a7 a8 a9 a10 a11 a13 a14)) ∧ Below w.heap.size w w' := by
  have hb1 := (Below.refl w.heap.size w).alloc (Nat.le_refl _) (.cells #[.int .i64 a0, .int .i64 a1, .int .i64 a2, .int .i64 a3, .bool a4, .int .i64 a5, .int .i64 a6, .int .i64 a7, .int .i64 a8, .bool a9, .int .i64 a10, .int .i64 a11, .int .i64 a12, .int .i64 a13, .int .i64 a14] 46)
  have hb0 := hb1.alloc (by simp) (.cells #[.int .i64 1, .func (.func 48) #[.agg #[.int .i64 a0, .int .i64 a1, .int .i64 a2, .int .i64 a3, .bool a4, .int .i64 a5, .int .i64 a6, .int .i64 a7, .int .i64 a8, .bool a9, .int .i64 a10, .int .i64 a11, .int .i64 a12, .int .i64 a13, .int .i64 a14]] #[], .int .i64 2, .func (.func 51) #[.agg #[.int .i64 a0, .int .i64 a1, .int .i64 a2, .int .i64 a3, .bool a4, .int .i64 a5, .int .i64 a6, .int .i64 a7, .int .i64 a8, .bool a9, .int .i64 a10, .int .i64 a11, .int .i64 a12, .int .i64 a13, .int .i64 a14]] #[], .int .i64 3, .func (.func 52) #[.agg #[.int .i64 a0, .int .i64 a1, .int .i64 a2, .int .i64 a3, .bool a4, .int .i64 a5, .int .i64 a6, .int .i64 a7, .int .i64 a8, .bool a9, .int .i64 a10, .int .i64 a11, .int .i64 a12, .int .i64 a13, .int .i64 a14]] #[], .int .i64 4, .func (.func 53) #[.agg #[.int .i64 a0, .int .i64 a1, .int .i64 a2, .int .i64 a3, .bool a4, .int .i64 a5, .int .i64 a6, .int .i64 a7, .int .i64 a8, .bool a9, .int .i64 a10, .int .i64 a11, .int .i64 a12, .int .i64 a13, .int .i64 a14]] #[]] 61)
  cases a4
  · go_enter Try.func39, Try.ntmps39
    go_wp2_with fail
    go_ret
    exact ⟨rfl, hb1⟩
  · go_enter Try.func39, Try.ntmps39
    go_wp2_with (go_at_call 47; refine (first_b_any _ _ a0 a1 a2 a3 true a5 a6 a7 a8 a9 a10 a11 a12 a13 a14 _ (by simp [go_sem]) (by simp [go_sem]) (by simp [go_sem]) (by simp [go_sem]) (by simp [go_sem]) (by simp [go_sem]) (by simp [go_sem]) (by simp [go_sem])).mono ?_; rintro e w2 ⟨rfl, hb2⟩)
    go_ret
    exact ⟨rfl, hb0.trans (hb2.mono hb0.size)⟩
end Go.Proofs.Ytikejheoakhojaa
