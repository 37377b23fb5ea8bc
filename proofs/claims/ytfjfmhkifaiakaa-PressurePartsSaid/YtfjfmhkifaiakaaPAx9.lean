-- written by a program of this seat's prover out of the translation; Lean checks it
import Derived.Test.YtfjfmhkifaiakaaPAx0
import Derived.Test.YtfjfmhkifaiakaaPAx3
import Derived.Test.YtfjfmhkifaiakaaPAx4
import Derived.Test.YtfjfmhkifaiakaaPAx5
import Derived.Test.YtfjfmhkifaiakaaPAx6
import Derived.Test.YtfjfmhkifaiakaaPAx7
import Derived.Test.YtfjfmhkifaiakaaPAx8
namespace Go.Proofs.Ytfjfmhkifaiakaa.PA
open Go.RowKit Go.Proofs.YtfjfmhkifaiakaaW.PrintWords Go.Proofs.YtfjfmhkifaiakaaW.PrintLast Go.Proofs.YtfjfmhkifaiakaaW.PrintMore
attribute [local go_sem] max2_int min2_int max_two min_two max_three min_three max_four min_four   -- for this text's walks alone
set_option linter.unusedVariables false
set_option linter.unusedSimpArgs false

/-! ### headgatelaw32_PressureParts: function 5 -/
mutual
def headgatelaw32_PressureParts.j0 : Nat → List Int → Int → List Bool → List Bool → Bool → Int → Int → Int → Option (Bool)
  | 0, _, _, _, _, _, _, _, _ => none
  | k + 1, x8, x9, x10, x12, x68, x239000, x239001, x239002 => if x68 = true then (some false) else (if x9 > 0 then (if 0 ≤ (wrap64 (x9 - 1)) then (if (wrap64 (x9 - 1)) < (x12.length : Int) then (headgatelaw32_PressureParts.j1 k x8 x9 x10 (rdOf false x12 (wrap64 (x9 - 1))) x239000 x239001 x239002) else (none)) else (none)) else (headgatelaw32_PressureParts.j1 k x8 x9 x10 false x239000 x239001 x239002))
def headgatelaw32_PressureParts.j1 : Nat → List Int → Int → List Bool → Bool → Int → Int → Int → Option (Bool)
  | 0, _, _, _, _, _, _, _ => none
  | k + 1, x8, x9, x10, x14, x239000, x239001, x239002 => headgatelaw32_PressureParts.l0 k x8 x9 x10 x14 x9 x239000 x239001 x239002
def headgatelaw32_PressureParts.l0 : Nat → List Int → Int → List Bool → Bool → Int → Int → Int → Int → Option (Bool)
  | 0, _, _, _, _, _, _, _, _ => none
  | k + 1, x8, x9, x10, x14, x15, x239000, x239001, x239002 => if x15 < (x8.length : Int) then (if 0 ≤ x15 then ((pressure_Next.f k x239000 x239001 x239002 x14 (rd x8 x15)).bind fun bt259 => (if bt259.2 = 0 then (if x15 < (x10.length : Int) then (if (bt259.1 != (rdOf false x10 x15)) = true then (some false) else (headgatelaw32_PressureParts.l0 k x8 x9 x10 bt259.1 (wrap64 (x15 + 1)) x239000 x239001 x239002)) else (none)) else (some false))) else (none)) else ((pressure_Worst.f k x239000 x239001 x239002 x8).bind fun bt262 => (if 0 ≤ x9 then (if x9 ≤ (x8.length : Int) then ((pressure_Worst.f k x239000 x239001 x239002 (x8.take (x9 : Int).toNat)).bind fun bt269 => ((pressure_Worst.f k x239000 x239001 x239002 (x8.drop (x9 : Int).toNat)).bind fun bt276 => (if bt262.2.2 = 0 then (if bt269.2.2 = 0 then (if bt276.2.2 = 0 then (if bt262.1 = (mx bt269.1 bt276.1) then ((headgatelaw32_awake.f k).bind fun t279 => (some t279)) else (some false)) else (some false)) else (some false)) else (some false)))) else (none)) else (none)))
end
def headgatelaw32_PressureParts.f (k : Nat) (a0 : Int) (l1 : List Int) (a2 : Int) : Option (Bool) := (headgatelaw32_made.f a0).bind fun bt232 => ((headgatelaw32_history.f k l1).bind fun t235 => ((headgatekit_Mod.f a2 (wrap64 ((t235.length : Int) + 1))).bind fun t239 => ((pressure_Run.f k bt232.1 bt232.2.1 bt232.2.2 t235).bind fun bt240 => (if 0 ≤ t239 then (if t239 ≤ (t235.length : Int) then ((pressure_Run.f k bt232.1 bt232.2.1 bt232.2.2 (t235.take (t239 : Int).toNat)).bind fun bt248 => (if bt240.2 = 0 then (if bt248.2 = 0 then (if (bt240.1.length : Int) = (t235.length : Int) then (if t239 ≤ (bt240.1.length : Int) then ((headgatekit_SameBools.f k bt248.1 (bt240.1.take (t239 : Int).toNat)).bind fun t256 => (headgatelaw32_PressureParts.j0 k t235 t239 bt240.1 bt248.1 (!t256) bt232.1 bt232.2.1 bt232.2.2)) else (none)) else (headgatelaw32_PressureParts.j0 k t235 t239 bt240.1 bt248.1 true bt232.1 bt232.2.1 bt232.2.2)) else (headgatelaw32_PressureParts.j0 k t235 t239 bt240.1 bt248.1 true bt232.1 bt232.2.1 bt232.2.2)) else (headgatelaw32_PressureParts.j0 k t235 t239 bt240.1 bt248.1 true bt232.1 bt232.2.1 bt232.2.2))) else (none)) else (none)))))
theorem headgatelaw32_PressureParts.mono_l : ∀ k, (∀ y0 y1 y2 y3 y4 y5 y6 y7, LeO (headgatelaw32_PressureParts.j0 k y0 y1 y2 y3 y4 y5 y6 y7) (headgatelaw32_PressureParts.j0 (k + 1) y0 y1 y2 y3 y4 y5 y6 y7)) ∧ (∀ y0 y1 y2 y3 y4 y5 y6, LeO (headgatelaw32_PressureParts.j1 k y0 y1 y2 y3 y4 y5 y6) (headgatelaw32_PressureParts.j1 (k + 1) y0 y1 y2 y3 y4 y5 y6)) ∧ (∀ y0 y1 y2 y3 y4 y5 y6 y7, LeO (headgatelaw32_PressureParts.l0 k y0 y1 y2 y3 y4 y5 y6 y7) (headgatelaw32_PressureParts.l0 (k + 1) y0 y1 y2 y3 y4 y5 y6 y7))
  | 0 => ⟨fun _ _ _ _ _ _ _ _ r h => by simp [headgatelaw32_PressureParts.j0] at h, fun _ _ _ _ _ _ _ r h => by simp [headgatelaw32_PressureParts.j1] at h, fun _ _ _ _ _ _ _ _ r h => by simp [headgatelaw32_PressureParts.l0] at h⟩
  | k + 1 => by
    obtain ⟨ih0, ih1, ih2⟩ := headgatelaw32_PressureParts.mono_l k
    refine ⟨?_, ?_, ?_⟩
    · intro y0 y1 y2 y3 y4 y5 y6 y7
      unfold headgatelaw32_PressureParts.j0
      repeat' first
      | (with_reducible exact ih0 _ _ _ _ _ _ _ _)
      | (with_reducible exact ih1 _ _ _ _ _ _ _)
      | (with_reducible exact ih2 _ _ _ _ _ _ _ _)
      | (with_reducible exact headgatekit_SameBools.mono _ _ _)
      | (with_reducible exact headgatelaw32_awake.mono _)
      | (with_reducible exact headgatelaw32_history.mono _ _)
      | (with_reducible exact pressure_Next.mono _ _ _ _ _ _)
      | (with_reducible exact pressure_Run.mono _ _ _ _ _)
      | (with_reducible exact pressure_Worst.mono _ _ _ _ _)
      | (with_reducible exact LeO.refl _)
      | (with_reducible exact LeO.none _)
      | (with_reducible refine LeO.ite ?_ ?_)
      | (with_reducible refine LeO.bind ?_ (fun _ => ?_))
      | exact ih0 _ _ _ _ _ _ _ _
      | exact ih1 _ _ _ _ _ _ _
      | exact ih2 _ _ _ _ _ _ _ _
      | exact headgatekit_SameBools.mono _ _ _
      | exact headgatelaw32_awake.mono _
      | exact headgatelaw32_history.mono _ _
      | exact pressure_Next.mono _ _ _ _ _ _
      | exact pressure_Run.mono _ _ _ _ _
      | exact pressure_Worst.mono _ _ _ _ _
      | exact LeO.none _
      | refine LeO.ite ?_ ?_
      | refine LeO.bind ?_ (fun _ => ?_)
    · intro y0 y1 y2 y3 y4 y5 y6
      unfold headgatelaw32_PressureParts.j1
      repeat' first
      | (with_reducible exact ih0 _ _ _ _ _ _ _ _)
      | (with_reducible exact ih1 _ _ _ _ _ _ _)
      | (with_reducible exact ih2 _ _ _ _ _ _ _ _)
      | (with_reducible exact headgatekit_SameBools.mono _ _ _)
      | (with_reducible exact headgatelaw32_awake.mono _)
      | (with_reducible exact headgatelaw32_history.mono _ _)
      | (with_reducible exact pressure_Next.mono _ _ _ _ _ _)
      | (with_reducible exact pressure_Run.mono _ _ _ _ _)
      | (with_reducible exact pressure_Worst.mono _ _ _ _ _)
      | (with_reducible exact LeO.refl _)
      | (with_reducible exact LeO.none _)
      | (with_reducible refine LeO.ite ?_ ?_)
      | (with_reducible refine LeO.bind ?_ (fun _ => ?_))
      | exact ih0 _ _ _ _ _ _ _ _
      | exact ih1 _ _ _ _ _ _ _
      | exact ih2 _ _ _ _ _ _ _ _
      | exact headgatekit_SameBools.mono _ _ _
      | exact headgatelaw32_awake.mono _
      | exact headgatelaw32_history.mono _ _
      | exact pressure_Next.mono _ _ _ _ _ _
      | exact pressure_Run.mono _ _ _ _ _
      | exact pressure_Worst.mono _ _ _ _ _
      | exact LeO.none _
      | refine LeO.ite ?_ ?_
      | refine LeO.bind ?_ (fun _ => ?_)
    · intro y0 y1 y2 y3 y4 y5 y6 y7
      unfold headgatelaw32_PressureParts.l0
      repeat' first
      | (with_reducible exact ih0 _ _ _ _ _ _ _ _)
      | (with_reducible exact ih1 _ _ _ _ _ _ _)
      | (with_reducible exact ih2 _ _ _ _ _ _ _ _)
      | (with_reducible exact headgatekit_SameBools.mono _ _ _)
      | (with_reducible exact headgatelaw32_awake.mono _)
      | (with_reducible exact headgatelaw32_history.mono _ _)
      | (with_reducible exact pressure_Next.mono _ _ _ _ _ _)
      | (with_reducible exact pressure_Run.mono _ _ _ _ _)
      | (with_reducible exact pressure_Worst.mono _ _ _ _ _)
      | (with_reducible exact LeO.refl _)
      | (with_reducible exact LeO.none _)
      | (with_reducible refine LeO.ite ?_ ?_)
      | (with_reducible refine LeO.bind ?_ (fun _ => ?_))
      | exact ih0 _ _ _ _ _ _ _ _
      | exact ih1 _ _ _ _ _ _ _
      | exact ih2 _ _ _ _ _ _ _ _
      | exact headgatekit_SameBools.mono _ _ _
      | exact headgatelaw32_awake.mono _
      | exact headgatelaw32_history.mono _ _
      | exact pressure_Next.mono _ _ _ _ _ _
      | exact pressure_Run.mono _ _ _ _ _
      | exact pressure_Worst.mono _ _ _ _ _
      | exact LeO.none _
      | refine LeO.ite ?_ ?_
      | refine LeO.bind ?_ (fun _ => ?_)
theorem headgatelaw32_PressureParts.mono : ∀ a0 a1 a2 k, LeO (headgatelaw32_PressureParts.f k a0 a1 a2) (headgatelaw32_PressureParts.f (k + 1) a0 a1 a2) := by
  intro a0 a1 a2 k
  obtain ⟨ih0, ih1, ih2⟩ := headgatelaw32_PressureParts.mono_l k
  unfold headgatelaw32_PressureParts.f
  repeat' first
      | (with_reducible exact ih0 _ _ _ _ _ _ _ _)
      | (with_reducible exact ih1 _ _ _ _ _ _ _)
      | (with_reducible exact ih2 _ _ _ _ _ _ _ _)
      | (with_reducible exact headgatekit_SameBools.mono _ _ _)
      | (with_reducible exact headgatelaw32_awake.mono _)
      | (with_reducible exact headgatelaw32_history.mono _ _)
      | (with_reducible exact pressure_Next.mono _ _ _ _ _ _)
      | (with_reducible exact pressure_Run.mono _ _ _ _ _)
      | (with_reducible exact pressure_Worst.mono _ _ _ _ _)
      | (with_reducible exact LeO.refl _)
      | (with_reducible exact LeO.none _)
      | (with_reducible refine LeO.ite ?_ ?_)
      | (with_reducible refine LeO.bind ?_ (fun _ => ?_))
      | exact ih0 _ _ _ _ _ _ _ _
      | exact ih1 _ _ _ _ _ _ _
      | exact ih2 _ _ _ _ _ _ _ _
      | exact headgatekit_SameBools.mono _ _ _
      | exact headgatelaw32_awake.mono _
      | exact headgatelaw32_history.mono _ _
      | exact pressure_Next.mono _ _ _ _ _ _
      | exact pressure_Run.mono _ _ _ _ _
      | exact pressure_Worst.mono _ _ _ _ _
      | exact LeO.none _
      | refine LeO.ite ?_ ?_
      | refine LeO.bind ?_ (fun _ => ?_)
def headgatelaw32_PressureParts.T4 : Bool × List (List Nat × List Nat) := (true, [([], []), ([], []), ([], []), ([1, 2], [1, 2]), ([0, 3], [0, 3]), ([4], [4]), ([5], [5]), ([5], [5]), ([6, 4, 0, 1, 2, 3, 4, 5, 6], [6]), ([7, 8, 0, 1, 2, 3, 4, 5, 6, 7, 8], [7])])
def headgatelaw32_PressureParts.B4 : List Nat := [0, 0, 0, 6, 15, 31, 63, 63, 127, 511]
theorem headgatelaw32_PressureParts.tab4 : rtab .any (opsOf Try.f5 4) = headgatelaw32_PressureParts.T4 := by kernel_rfl
theorem headgatelaw32_PressureParts.bits4 : waitsOk headgatelaw32_PressureParts.T4.2 headgatelaw32_PressureParts.B4 = true := by kernel_rfl
def headgatelaw32_PressureParts.T11 : Bool × List (List Nat × List Nat) := (true, [([], []), ([], []), ([], []), ([], []), ([2, 3], [2, 3]), ([4], [4]), ([0, 1, 5], [0, 1, 5]), ([6], [6]), ([7], [7]), ([7], [7]), ([8, 6, 0, 1, 2, 3, 4, 5, 6, 7, 8], [8]), ([9, 10, 0, 1, 2, 3, 4, 5, 6, 7, 8, 9, 10], [9])])
def headgatelaw32_PressureParts.B11 : List Nat := [0, 0, 0, 0, 12, 28, 63, 127, 255, 255, 511, 2047]
theorem headgatelaw32_PressureParts.tab11 : rtab .any (opsOf Try.f5 11) = headgatelaw32_PressureParts.T11 := by kernel_rfl
theorem headgatelaw32_PressureParts.bits11 : waitsOk headgatelaw32_PressureParts.T11.2 headgatelaw32_PressureParts.B11 = true := by kernel_rfl
def headgatelaw32_PressureParts.T16 : Bool × List (List Nat × List Nat) := (true, [([], []), ([], []), ([], []), ([1, 2], [1, 2]), ([0, 3], [0, 3]), ([4], [4]), ([5], [5]), ([5], [5]), ([5], [5]), ([6, 4, 0, 1, 2, 3, 4, 5, 6], [6]), ([7, 9, 0, 1, 2, 3, 4, 5, 6, 7, 9], [7]), ([8, 10, 0, 1, 2, 3, 4, 5, 6, 7, 8, 9, 10], [8])])
def headgatelaw32_PressureParts.B16 : List Nat := [0, 0, 0, 6, 15, 31, 63, 63, 63, 127, 767, 2047]
theorem headgatelaw32_PressureParts.tab16 : rtab .any (opsOf Try.f5 16) = headgatelaw32_PressureParts.T16 := by kernel_rfl
theorem headgatelaw32_PressureParts.bits16 : waitsOk headgatelaw32_PressureParts.T16.2 headgatelaw32_PressureParts.B16 = true := by kernel_rfl
def headgatelaw32_PressureParts.T17 : Bool × List (List Nat × List Nat) := (true, [([], []), ([], []), ([], []), ([1, 2], [1, 2]), ([0, 3], [0, 3]), ([4], [4]), ([5], [5]), ([5], [5]), ([5], [5]), ([6, 4, 0, 1, 2, 3, 4, 5, 6], [6]), ([7, 9, 0, 1, 2, 3, 4, 5, 6, 7, 9], [7]), ([8, 10, 0, 1, 2, 3, 4, 5, 6, 7, 8, 9, 10], [8])])
def headgatelaw32_PressureParts.B17 : List Nat := [0, 0, 0, 6, 15, 31, 63, 63, 63, 127, 767, 2047]
theorem headgatelaw32_PressureParts.tab17 : rtab .any (opsOf Try.f5 17) = headgatelaw32_PressureParts.T17 := by kernel_rfl
theorem headgatelaw32_PressureParts.bits17 : waitsOk headgatelaw32_PressureParts.T17.2 headgatelaw32_PressureParts.B17 = true := by kernel_rfl
set_option maxHeartbeats 8000000 in
set_option maxRecDepth 100000 in
theorem headgatelaw32_PressureParts.calls (k : Nat) (a0 : Int) (A1 : Option Addr) (c1 : Nat) (l1 : List Int) (a2 : Int) (r : Bool) (w : World) (hr1 : Kd.C (Kd.int .i64) w A1 l1.length l1) (hc1 : l1.length ≤ c1) (h : headgatelaw32_PressureParts.f k a0 l1 a2 = some r) (hT : Aside0 (r = true)) :
    Calls Try.prog 5 #[.int .i64 a0, .slice A1 l1.length c1, .int .i64 a2] w fun e w' => e = .returned (.bool r) ∧ Below w.heap.size w w' := by
  have hu23 := Try.underlying23
  have HR1 := Aside0.mk hr1
  have HC1 := Aside0.mk hc1
  clear hr1 hc1
  have HB := Aside0.mk (Below.refl w.heap.size w)
  have H : ((headgatelaw32_made.f a0).bind fun bt232 => ((headgatelaw32_history.f k l1).bind fun t235 => ((headgatekit_Mod.f a2 (wrap64 ((t235.length : Int) + 1))).bind fun t239 => ((pressure_Run.f k bt232.1 bt232.2.1 bt232.2.2 t235).bind fun bt240 => (if 0 ≤ t239 then (if t239 ≤ (t235.length : Int) then ((pressure_Run.f k bt232.1 bt232.2.1 bt232.2.2 (t235.take (t239 : Int).toNat)).bind fun bt248 => (if bt240.2 = 0 then (if bt248.2 = 0 then (if (bt240.1.length : Int) = (t235.length : Int) then (if t239 ≤ (bt240.1.length : Int) then ((headgatekit_SameBools.f k bt248.1 (bt240.1.take (t239 : Int).toNat)).bind fun t256 => (headgatelaw32_PressureParts.j0 k t235 t239 bt240.1 bt248.1 (!t256) bt232.1 bt232.2.1 bt232.2.2)) else (none)) else (headgatelaw32_PressureParts.j0 k t235 t239 bt240.1 bt248.1 true bt232.1 bt232.2.1 bt232.2.2)) else (headgatelaw32_PressureParts.j0 k t235 t239 bt240.1 bt248.1 true bt232.1 bt232.2.1 bt232.2.2)) else (headgatelaw32_PressureParts.j0 k t235 t239 bt240.1 bt248.1 true bt232.1 bt232.2.1 bt232.2.2))) else (none)) else (none)))))) = some r := h
  clear h
  replace H := Option.bind_eq_some_iff.mp H
  obtain ⟨⟨t232, t233, t234⟩, A40, H⟩ := H
  replace H : ((headgatelaw32_history.f k l1).bind fun t235 => ((headgatekit_Mod.f a2 (wrap64 ((t235.length : Int) + 1))).bind fun t239 => ((pressure_Run.f k t232 t233 t234 t235).bind fun bt240 => (if 0 ≤ t239 then (if t239 ≤ (t235.length : Int) then ((pressure_Run.f k t232 t233 t234 (t235.take (t239 : Int).toNat)).bind fun bt248 => (if bt240.2 = 0 then (if bt248.2 = 0 then (if (bt240.1.length : Int) = (t235.length : Int) then (if t239 ≤ (bt240.1.length : Int) then ((headgatekit_SameBools.f k bt248.1 (bt240.1.take (t239 : Int).toNat)).bind fun t256 => (headgatelaw32_PressureParts.j0 k t235 t239 bt240.1 bt248.1 (!t256) t232 t233 t234)) else (none)) else (headgatelaw32_PressureParts.j0 k t235 t239 bt240.1 bt248.1 true t232 t233 t234)) else (headgatelaw32_PressureParts.j0 k t235 t239 bt240.1 bt248.1 true t232 t233 t234)) else (headgatelaw32_PressureParts.j0 k t235 t239 bt240.1 bt248.1 true t232 t233 t234))) else (none)) else (none))))) = some r := H
  have A4 := Aside0.mk A40
  clear A40
  replace H := Option.bind_eq_some_iff.mp H
  obtain ⟨t235, A50, H⟩ := H
  replace H : ((headgatekit_Mod.f a2 (wrap64 ((t235.length : Int) + 1))).bind fun t239 => ((pressure_Run.f k t232 t233 t234 t235).bind fun bt240 => (if 0 ≤ t239 then (if t239 ≤ (t235.length : Int) then ((pressure_Run.f k t232 t233 t234 (t235.take (t239 : Int).toNat)).bind fun bt248 => (if bt240.2 = 0 then (if bt248.2 = 0 then (if (bt240.1.length : Int) = (t235.length : Int) then (if t239 ≤ (bt240.1.length : Int) then ((headgatekit_SameBools.f k bt248.1 (bt240.1.take (t239 : Int).toNat)).bind fun t256 => (headgatelaw32_PressureParts.j0 k t235 t239 bt240.1 bt248.1 (!t256) t232 t233 t234)) else (none)) else (headgatelaw32_PressureParts.j0 k t235 t239 bt240.1 bt248.1 true t232 t233 t234)) else (headgatelaw32_PressureParts.j0 k t235 t239 bt240.1 bt248.1 true t232 t233 t234)) else (headgatelaw32_PressureParts.j0 k t235 t239 bt240.1 bt248.1 true t232 t233 t234))) else (none)) else (none)))) = some r := H
  have A5 := Aside0.mk A50
  clear A50
  replace H := Option.bind_eq_some_iff.mp H
  obtain ⟨t239, A60, H⟩ := H
  replace H : ((pressure_Run.f k t232 t233 t234 t235).bind fun bt240 => (if 0 ≤ t239 then (if t239 ≤ (t235.length : Int) then ((pressure_Run.f k t232 t233 t234 (t235.take (t239 : Int).toNat)).bind fun bt248 => (if bt240.2 = 0 then (if bt248.2 = 0 then (if (bt240.1.length : Int) = (t235.length : Int) then (if t239 ≤ (bt240.1.length : Int) then ((headgatekit_SameBools.f k bt248.1 (bt240.1.take (t239 : Int).toNat)).bind fun t256 => (headgatelaw32_PressureParts.j0 k t235 t239 bt240.1 bt248.1 (!t256) t232 t233 t234)) else (none)) else (headgatelaw32_PressureParts.j0 k t235 t239 bt240.1 bt248.1 true t232 t233 t234)) else (headgatelaw32_PressureParts.j0 k t235 t239 bt240.1 bt248.1 true t232 t233 t234)) else (headgatelaw32_PressureParts.j0 k t235 t239 bt240.1 bt248.1 true t232 t233 t234))) else (none)) else (none))) = some r := H
  have A6 := Aside0.mk A60
  clear A60
  replace H := Option.bind_eq_some_iff.mp H
  obtain ⟨⟨t240, t243⟩, A70, H⟩ := H
  replace H : (if 0 ≤ t239 then (if t239 ≤ (t235.length : Int) then ((pressure_Run.f k t232 t233 t234 (t235.take (t239 : Int).toNat)).bind fun bt248 => (if t243 = 0 then (if bt248.2 = 0 then (if (t240.length : Int) = (t235.length : Int) then (if t239 ≤ (t240.length : Int) then ((headgatekit_SameBools.f k bt248.1 (t240.take (t239 : Int).toNat)).bind fun t256 => (headgatelaw32_PressureParts.j0 k t235 t239 t240 bt248.1 (!t256) t232 t233 t234)) else (none)) else (headgatelaw32_PressureParts.j0 k t235 t239 t240 bt248.1 true t232 t233 t234)) else (headgatelaw32_PressureParts.j0 k t235 t239 t240 bt248.1 true t232 t233 t234)) else (headgatelaw32_PressureParts.j0 k t235 t239 t240 bt248.1 true t232 t233 t234))) else (none)) else (none)) = some r := H
  have A7 := Aside0.mk A70
  clear A70
  by_cases c8 : 0 ≤ t239
  · rw [if_pos c8] at H
    have c8b0 := eq_true c8
    have c8b1 : decide (0 ≤ t239) = true := decide_eq_true c8
    clear c8
    by_cases c9 : t239 ≤ (t235.length : Int)
    · rw [if_pos c9] at H
      have c9b0 := eq_true c9
      have c9b1 : decide (t239 ≤ (t235.length : Int)) = true := decide_eq_true c9
      clear c9
      obtain ⟨y244, hy244⟩ : ∃ y_ : List Int, y_ = (t235.take (t239 : Int).toNat) := ⟨_, rfl⟩
      replace H : ((pressure_Run.f k t232 t233 t234 y244).bind fun bt248 => (if t243 = 0 then (if bt248.2 = 0 then (if (t240.length : Int) = (t235.length : Int) then (if t239 ≤ (t240.length : Int) then ((headgatekit_SameBools.f k bt248.1 (t240.take (t239 : Int).toNat)).bind fun t256 => (headgatelaw32_PressureParts.j0 k t235 t239 t240 bt248.1 (!t256) t232 t233 t234)) else (none)) else (headgatelaw32_PressureParts.j0 k t235 t239 t240 bt248.1 true t232 t233 t234)) else (headgatelaw32_PressureParts.j0 k t235 t239 t240 bt248.1 true t232 t233 t234)) else (headgatelaw32_PressureParts.j0 k t235 t239 t240 bt248.1 true t232 t233 t234))) = some r := by first | (rw [hy244]; with_reducible exact H) | (have H2_ := (Option.bind_some _ _).symm.trans H; rw [hy244]; with_reducible exact H2_) | (have H2_ := (Option.bind_some _ _).symm.trans H; with_reducible exact H2_) | with_reducible exact H | (rw [hy244]; exact H) | exact H
      have Ny244 := Aside0.mk hy244
      clear hy244
      replace H := Option.bind_eq_some_iff.mp H
      obtain ⟨⟨t248, t251⟩, A100, H⟩ := H
      replace H : (if t243 = 0 then (if t251 = 0 then (if (t240.length : Int) = (t235.length : Int) then (if t239 ≤ (t240.length : Int) then ((headgatekit_SameBools.f k t248 (t240.take (t239 : Int).toNat)).bind fun t256 => (headgatelaw32_PressureParts.j0 k t235 t239 t240 t248 (!t256) t232 t233 t234)) else (none)) else (headgatelaw32_PressureParts.j0 k t235 t239 t240 t248 true t232 t233 t234)) else (headgatelaw32_PressureParts.j0 k t235 t239 t240 t248 true t232 t233 t234)) else (headgatelaw32_PressureParts.j0 k t235 t239 t240 t248 true t232 t233 t234)) = some r := H
      have A10 := Aside0.mk A100
      clear A100
      have HC11 := Aside0.mk H
      clear H
      go_enter Try.func5, Try.ntmps5
      try go_wp2_with (first | ((with_reducible refine gate_callee (f := 18) rfl ?_); refine goesL_ (some 26) rfl rfl Try.func18 (by kernel_rfl) rfl #[.int .i64 a0] rfl (by (try simp only [List.map_toArray, List.map_cons, List.map_nil]); first | done | rfl | (simp only [List.length_drop, List.length_take]; rfl)) ?_; (with_reducible refine (headgatelaw32_made.calls a0 t232 t233 t234 _ A4.out).mono ?_); rintro e w12 ⟨rfl, hb⟩; refine ⟨_, rfl, ?_⟩; have n0_ := Aside0.mk (below_step (by repeat (first | (with_reducible first | exact HB.out | apply below_alloc | apply pw_below_drewN | apply below_drew1) | exact HB.out)) hb); clear HB; have HB := n0_; clear n0_; (try clear hb); (try clear hb2); (try clear hk); (try clear hi)) | ((with_reducible refine gate_callee (f := 20) rfl ?_); refine goesL_ (some 28) rfl rfl Try.func20 (by kernel_rfl) rfl #[.slice A1 l1.length c1] rfl (by (try simp only [List.map_toArray, List.map_cons, List.map_nil]); first | done | rfl | (simp only [List.length_drop, List.length_take]; rfl)) ?_; (with_reducible refine (headgatelaw32_history.calls k _ _ l1 t235 _ ?side1 ?side2 A5.out).mono ?_); (case side1 => repeat (first | exact (Kd.C_below HR1.out HB.out) | (with_reducible refine Kd.C_alloc ?_ _) | (with_reducible refine Kd.C_drewN ?_ _) | (with_reducible refine Kd.C_drew ?_))); (case side2 => exact HC1.out); rintro e w13 ⟨v236, rfl, ho0, hb⟩; refine ⟨_, rfl, ?_⟩; have n0_ := Aside0.mk (Kd.R_lower ho0 (below_size (by repeat (first | (with_reducible first | exact HB.out | apply below_alloc | apply pw_below_drewN | apply below_drew1) | exact HB.out)))); have n1_ := Aside0.mk (below_step (by repeat (first | (with_reducible first | exact HB.out | apply below_alloc | apply pw_below_drewN | apply below_drew1) | exact HB.out)) hb); clear HB; have HO237 := n0_; have HB := n1_; clear n0_ n1_; (try clear hb); (try clear hb2); (try clear hk); (try clear hi); (try clear ho0)) | ((with_reducible refine gate_dst (N := 7) rfl ?_); (try (refine gate_guard (by rfl) ?_; dsimp only)); refine box_event ?hg (N := 7) ?hd (cs := #[.int .i64 0, .int .i64 0, .int .i64 0]) (t := 23) ?hr ?_; (case hd => rfl); (case hg => rfl); (case hr => first | (go_simp; done) | (go_simp; rfl)); intro gb238 hg w14 hbox hb; have n0_ := Aside0.mk (Kd.R_below (by (with_reducible repeat (first | apply Kd.R_alloc | apply Kd.R_drewN | apply Kd.R_drew)); exact HO237.out) hb); have n1_ := Aside0.mk (below_step (by repeat (first | (with_reducible first | exact HB.out | apply below_alloc | apply pw_below_drewN | apply below_drew1) | exact HB.out)) hb); have n2_ := Aside0.mk (hbox); have n3_ := Aside0.mk ((by rw [hg]; exact (below_size (by repeat (first | (with_reducible first | exact HB.out | apply below_alloc | apply pw_below_drewN | apply below_drew1) | exact HB.out))) : w.heap.size ≤ gb238)); have n4_ := Aside0.mk ((by rw [hg]; exact (below_size (by repeat (first | (with_reducible first | exact HB.out | apply below_alloc | apply pw_below_drewN | apply below_drew1) | exact HB.out))) : w.heap.size ≤ gb238)); clear HO237; clear HB; have HO237 := n0_; have HB := n1_; have BK238 := n2_; have GW238 := n3_; have GE238 := n4_; clear n0_ n1_ n2_ n3_ n4_; clear hb hbox hg; have hcz15_0 : w14.cell? ⟨gb238, 0, none⟩ = some (.int .i64 0) := (blk_cell BK238.out 0).trans rfl; have hcz15_1 : w14.cell? ⟨gb238, 1, none⟩ = some (.int .i64 0) := (blk_cell BK238.out 1).trans rfl; have hcz15_2 : w14.cell? ⟨gb238, 2, none⟩ = some (.int .i64 0) := (blk_cell BK238.out 2).trans rfl; have hfz15_0 := blk_frozen BK238.out 0; have hfz15_1 := blk_frozen BK238.out 1; have hfz15_2 := blk_frozen BK238.out 2; obtain ⟨Ao16, co16, eo16⟩ := Kd.R_slice HO237.out; subst eo16) | ((with_reducible refine gate_callee (f := 19) rfl ?_); refine goesL_ (some 33) rfl rfl Try.func19 (by kernel_rfl) rfl #[.int .i64 a2, .int .i64 (wrap64 ((t235.length : Int) + 1))] rfl (by (try simp only [List.map_toArray, List.map_cons, List.map_nil]); first | done | rfl | (simp only [List.length_drop, List.length_take]; rfl)) ?_; (with_reducible refine (headgatekit_Mod.calls a2 (wrap64 ((t235.length : Int) + 1)) t239 _ A6.out).mono ?_); rintro e w' ⟨rfl, ⟨nd, rfl⟩⟩; refine ⟨_, rfl, ?_⟩) | ((with_reducible refine gate_callee (f := 21) rfl ?_); refine goesL_ (some 37) rfl rfl Try.func21 (by kernel_rfl) rfl #[.agg #[.int .i64 t232, .int .i64 t233, .int .i64 t234], .slice Ao16 t235.length co16] rfl (by (try simp only [List.map_toArray, List.map_cons, List.map_nil]); first | done | rfl | (simp only [List.length_drop, List.length_take]; rfl)) ?_; (with_reducible refine (pressure_Run.calls k t232 t233 t234 _ _ t235 t240 t243 _ ?side1 ?side2 A7.out).mono ?_); (case side1 => refine (Kd.R_reads' (e := 3) (base := w.heap.size) (ok := fun k_ => True) (n := t235.length) (c := co16) ?_).2.2; exact (by (with_reducible repeat (first | apply Kd.R_alloc | apply Kd.R_drewN | apply Kd.R_drew)); exact (Kd.R_mono (Kd.R_far (p := ⟨gb238, 2, none⟩) (Kd.R_far (p := ⟨gb238, 1, none⟩) (Kd.R_far (p := ⟨gb238, 0, none⟩) (Kd.R_types HO237.out BK238.out (by decide)) (fun _ hk => hk.2) (.int .i64 t232)) (fun _ hk => hk.2) (.int .i64 t233)) (fun _ hk => hk.2) (.int .i64 t234)) (fun _ h_ => h_.1)))); (case side2 => exact (Kd.R_reads' HO237.out).2.1); rintro e w17 ⟨v241, rfl, ho0, hb⟩; refine ⟨_, rfl, ?_⟩; have n0_ := Aside0.mk (Kd.R_below (by (with_reducible repeat (first | apply Kd.R_alloc | apply Kd.R_drewN | apply Kd.R_drew)); exact (Kd.R_mono (Kd.R_far (p := ⟨gb238, 2, none⟩) (Kd.R_far (p := ⟨gb238, 1, none⟩) (Kd.R_far (p := ⟨gb238, 0, none⟩) (Kd.R_types HO237.out BK238.out (by decide)) (fun _ hk => hk.2) (.int .i64 t232)) (fun _ hk => hk.2) (.int .i64 t233)) (fun _ hk => hk.2) (.int .i64 t234)) (fun _ h_ => h_.1))) hb); have n1_ := Aside0.mk (Kd.R_lower ho0 (below_size (by repeat (first | (with_reducible first | exact HB.out | apply below_alloc | apply pw_below_drewN | apply below_drew1 | refine below_set ?_ GE238.out) | exact HB.out)))); have n2_ := Aside0.mk (blk_below (g := gb238) (o := .cells #[.int .i64 t232, .int .i64 t233, .int .i64 t234] 23 (0, 0)) (by (with_reducible repeat (first | refine blk_drewN ?_ _ | refine blk_drew ?_ | refine blk_alloc ?_ _)); refine blk_put (cs := #[.int .i64 t232, .int .i64 t233, .int .i64 0]) ?_ 2 _ rfl; (with_reducible repeat (first | refine blk_drewN ?_ _ | refine blk_drew ?_ | refine blk_alloc ?_ _)); refine blk_put (cs := #[.int .i64 t232, .int .i64 0, .int .i64 0]) ?_ 1 _ rfl; (with_reducible repeat (first | refine blk_drewN ?_ _ | refine blk_drew ?_ | refine blk_alloc ?_ _)); refine blk_put (cs := #[.int .i64 0, .int .i64 0, .int .i64 0]) ?_ 0 _ rfl; (with_reducible repeat (first | refine blk_drewN ?_ _ | refine blk_drew ?_ | refine blk_alloc ?_ _)); exact BK238.out) hb); have n3_ := Aside0.mk (below_step (by repeat (first | (with_reducible first | exact HB.out | apply below_alloc | apply pw_below_drewN | apply below_drew1 | refine below_set ?_ GE238.out) | exact HB.out)) hb); clear HO237; clear BK238; clear HB; have HO237 := n0_; have HO242 := n1_; have BK238 := n2_; have HB := n3_; clear n0_ n1_ n2_ n3_; (try clear hb); (try clear hb2); (try clear hk); (try clear hi); (try clear ho0)))
      have n0_ := Aside0.mk (Kd.R_drew HO237.out)
      have n1_ := Aside0.mk (Kd.R_drew HO242.out)
      have n2_ := Aside0.mk (blk_drew BK238.out)
      have n3_ := Aside0.mk (below_drew1 HB.out)
      clear HO237
      clear HO242
      clear BK238
      clear HB
      have HO237 := n0_
      have HO242 := n1_
      have BK238 := n2_
      have HB := n3_
      clear n0_ n1_ n2_ n3_
      have q19 : (t239 : Int) ≤ ((t235.length : Int) : Int) := of_decide_eq_true (by first | (with_reducible assumption) | assumption)
      obtain ⟨i019, hi019, _, hsz19, _⟩ := info_parts info3
      have hroom19 : t235.length ≤ co16 := (Kd.R_reads' HO237.out).2.1
      have hC19 : Kd.C (Kd.int .i64) _ Ao16 t235.length t235 := (Kd.R_reads' HO237.out).2.2
      have hcut19 := cut_to (P := Try.prog) 36 3 .i64 Try.underlying36 hi019 Ao16 t235.length co16 t239 (of_decide_eq_true (by first | (with_reducible assumption) | assumption)) q19 hroom19
      have hr19 := Kd.C_take (m := (t239 : Int).toNat) hC19 (by omega)
      have hy19 : y244.length = (t239 : Int).toNat := (by rw [Ny244.out, List.length_take]; omega)
      rw [← Ny244.out] at hr19
      rw [← hy19] at hcut19
      have HR247 := Aside0.mk hr19
      have HC247 := Aside0.mk (show y244.length ≤ co16 from by omega)
      clear hr19 hC19 hroom19 hi019 hsz19
      have KY19 := Aside0.mk hy19
      clear hy19
      have KL19 := Aside0.mk (show (t239 : Int).toNat ≤ t235.length from by omega)
      replace q19 := eq_true q19
      refine start_ (n := 10) (S := fun w' => w'.cell? ⟨gb238, 0, none⟩ = some (.int .i64 t232) ∧ w'.cell? ⟨gb238, 1, none⟩ = some (.int .i64 t233) ∧ w'.cell? ⟨gb238, 2, none⟩ = some (.int .i64 t234)) (ds := []) #[false, false, false, false, false, false, false, false, false, false] (by kernel_rfl) rfl rfl ⟨(blk_cell BK238.out 0).trans rfl, (blk_cell BK238.out 1).trans rfl, (blk_cell BK238.out 2).trans rfl⟩ (fun hHeld => ?_); refine with_tabW headgatelaw32_PressureParts.tab4 headgatelaw32_PressureParts.bits4 (fun HT_ HW_ => ?_)
      generalize w17.drew = w18 at HO237 HO242 BK238 HB HR247 hHeld ⊢
      refine pure_ (i := 1) (N := some 42) (v := ?_) (a' := ?_) #[false, true, false, false, false, false, false, false, false, false] rfl rfl (any_of HT_.out (by kernel_rfl)) (fun _ _ _ h => h) (Or.inl ⟨by rfl, ?_⟩) ?_ ?_
      rotate_left
      · intro w'
        go_simp
        with_reducible rfl
      rotate_left
      · simp only [Act.put, List.setIfInBounds_toArray, List.set_cons_zero, List.set_cons_succ, i64_w, i32_w]
        rfl
      refine pure_ (i := 2) (N := some 43) (v := ?_) (a' := ?_) #[false, true, true, false, false, false, false, false, false, false] rfl rfl (any_of HT_.out (by kernel_rfl)) (fun _ _ _ h => h) (Or.inl ⟨by rfl, ?_⟩) ?_ ?_
      rotate_left
      · intro w'
        go_simp
        with_reducible rfl
      rotate_left
      · simp only [Act.put, List.setIfInBounds_toArray, List.set_cons_zero, List.set_cons_succ, i64_w, i32_w]
        rfl
      refine pure_ (i := 3) (N := some 44) (v := ?_) (a' := ?_) #[false, true, true, true, false, false, false, false, false, false] rfl rfl (any_of HT_.out (by kernel_rfl)) (fun _ _ _ h => h) (Or.inl ⟨by rfl, ?_⟩) ?_ ?_
      rotate_left
      · intro w'
        go_simp
        with_reducible rfl
      rotate_left
      · simp only [Act.put, List.setIfInBounds_toArray, List.set_cons_zero, List.set_cons_succ, i64_w, i32_w]
        rfl
      refine take_ (i := 0) (N := some 41) (v := ?_) (a' := ?_) #[true, true, true, true, false, false, false, false, false, false] rfl rfl (take_ofW HT_.out HW_.out (by kernel_rfl)) (fun _ _ _ h => h) (Or.inl ⟨by rfl, ?_⟩) hHeld ?_ ?_
      rotate_left
      · rintro w' ⟨s0, s1, s2⟩
        go_simp
        with_reducible rfl
      rotate_left
      · simp only [Act.put, List.setIfInBounds_toArray, List.set_cons_zero, List.set_cons_succ, i64_w, i32_w]
        rfl
      refine one_ (i := 4) (N := some 45) #[true, true, true, true, true, false, false, false, false, false] rfl rfl (one_of HT_.out (by kernel_rfl)) (by decide) (fun K hK => ?_)
      refine goes_ Try.func21 (by kernel_rfl) rfl #[.agg #[.int .i64 t232, .int .i64 t233, .int .i64 t234], .slice Ao16 y244.length co16] (by rfl) rfl rfl (by (try simp only [List.map_toArray, List.map_cons, List.map_nil]); first | done | rfl | (simp only [List.length_drop, List.length_take]; rfl)) ?_
      with_reducible refine (pressure_Run.calls k t232 t233 t234 _ _ y244 t248 t251 _ ?side1 ?side2 A10.out).mono ?_
      (case side1 => repeat (first | exact (by repeat (first | (with_reducible exact HR247.out) | (with_reducible refine Kd.C_alloc ?_ _) | (with_reducible refine Kd.C_drewN ?_ _) | (with_reducible refine Kd.C_drew ?_) | exact HR247.out)) | (with_reducible refine Kd.C_alloc ?_ _) | (with_reducible refine Kd.C_drewN ?_ _) | (with_reducible refine Kd.C_drew ?_)))
      (case side2 => exact HC247.out)
      rintro e w20 ⟨v249, rfl, ho0, hb⟩
      refine ⟨_, rfl, ?_⟩
      have n0_ := Aside0.mk (Kd.R_below (by (with_reducible repeat (first | apply Kd.R_alloc | apply Kd.R_drewN | apply Kd.R_drew)); exact HO237.out) hb)
      have n1_ := Aside0.mk (Kd.R_elder' (by (with_reducible repeat (first | apply Kd.R_alloc | apply Kd.R_drewN | apply Kd.R_drew)); exact HO242.out) (Kd.R_base ho0) hb)
      have n2_ := Aside0.mk (Kd.R_lower (Kd.R_new' ho0 (Kd.R_lt (by (with_reducible repeat (first | apply Kd.R_alloc | apply Kd.R_drewN | apply Kd.R_drew)); exact HO242.out))) (below_size (by repeat (first | (with_reducible first | exact HB.out | apply below_alloc | apply pw_below_drewN | apply below_drew1 | refine below_set ?_ GE238.out) | exact HB.out))))
      have n3_ := Aside0.mk (blk_below (g := gb238) (o := .cells #[.int .i64 t232, .int .i64 t233, .int .i64 t234] 23 (0, 0)) (by (with_reducible repeat (first | refine blk_drewN ?_ _ | refine blk_drew ?_ | refine blk_alloc ?_ _)); exact BK238.out) hb)
      have n4_ := Aside0.mk (Kd.C_below (by repeat (first | (with_reducible exact HR247.out) | (with_reducible refine Kd.C_alloc ?_ _) | (with_reducible refine Kd.C_drewN ?_ _) | (with_reducible refine Kd.C_drew ?_) | exact HR247.out)) hb)
      have n5_ := Aside0.mk (below_step (by repeat (first | (with_reducible first | exact HB.out | apply below_alloc | apply pw_below_drewN | apply below_drew1 | refine below_set ?_ GE238.out) | exact HB.out)) hb)
      clear HO237
      clear HO242
      clear BK238
      clear HR247
      clear HB
      have HO237 := n0_
      have HO242 := n1_
      have HO250 := n2_
      have BK238 := n3_
      have HR247 := n4_
      have HB := n5_
      clear n0_ n1_ n2_ n3_ n4_ n5_
      (try clear hb)
      (try clear hb2)
      (try clear hk)
      (try clear hi)
      (try clear ho0)
      refine hK.out _ _ ⟨(blk_cell BK238.out 0).trans rfl, (blk_cell BK238.out 1).trans rfl, (blk_cell BK238.out 2).trans rfl⟩ (fun hHeld => ?_)
      clear hK K
      refine norm_ (a' := ?_) ?_ ?_
      rotate_left
      · show Act.put _ (some 45) _ = _
        simp only [Act.put, List.setIfInBounds_toArray, List.set_cons_zero, List.set_cons_succ, i64_w, i32_w]
        rfl
      refine pure_ (i := 5) (N := some 40) (v := ?_) (a' := ?_) #[true, true, true, true, true, true, false, false, false, false] rfl rfl (any_of HT_.out (by kernel_rfl)) (fun _ _ _ h => h) (Or.inl ⟨by rfl, ?_⟩) ?_ ?_
      rotate_left
      · intro w'
        go_simp
        with_reducible rfl
      rotate_left
      · simp only [Act.put, List.setIfInBounds_toArray, List.set_cons_zero, List.set_cons_succ, i64_w, i32_w]
        rfl
      refine pure_ (i := 6) (N := some 46) (v := ?_) (a' := ?_) #[true, true, true, true, true, true, true, false, false, false] rfl rfl (any_of HT_.out (by kernel_rfl)) (fun _ _ _ h => h) (Or.inl ⟨by rfl, ?_⟩) ?_ ?_
      rotate_left
      · intro w'
        go_simp
        with_reducible rfl
      rotate_left
      · simp only [Act.put, List.setIfInBounds_toArray, List.set_cons_zero, List.set_cons_succ, i64_w, i32_w]
        rfl
      refine pure_ (i := 7) (N := some 47) (v := ?_) (a' := ?_) #[true, true, true, true, true, true, true, true, false, false] rfl rfl (any_of HT_.out (by kernel_rfl)) (fun _ _ _ h => h) (Or.inl ⟨by rfl, ?_⟩) ?_ ?_
      rotate_left
      · intro w'
        go_simp
        with_reducible rfl
      rotate_left
      · simp only [Act.put, List.setIfInBounds_toArray, List.set_cons_zero, List.set_cons_succ, i64_w, i32_w]
        rfl
      refine pure_ (i := 8) (N := some 12) (v := ?_) (a' := ?_) #[true, true, true, true, true, true, true, true, true, false] rfl rfl (any_of HT_.out (by kernel_rfl)) (fun _ _ _ h => h) (Or.inl ⟨by rfl, ?_⟩) ?_ ?_
      rotate_left
      · intro w'
        go_simp
        with_reducible rfl
      rotate_left
      · simp only [Act.put, List.setIfInBounds_toArray, List.set_cons_zero, List.set_cons_succ, i64_w, i32_w]
        rfl
      refine pure_ (i := 9) (N := some 13) (v := ?_) (a' := ?_) #[true, true, true, true, true, true, true, true, true, true] rfl rfl (any_of HT_.out (by kernel_rfl)) (fun _ _ _ h => h) (Or.inl ⟨by rfl, ?_⟩) ?_ ?_
      rotate_left
      · intro w'
        go_simp
        with_reducible rfl
      rotate_left
      · simp only [Act.put, List.setIfInBounds_toArray, List.set_cons_zero, List.set_cons_succ, i64_w, i32_w]
        rfl
      refine done_ (done_of HT_.out (by kernel_rfl)) ?_
      go_upto_region 5 with (fail)
      go_cut [68] (fun v68 wc => ∃ (kq : Nat) (x68_10 : Bool), v68 = .bool x68_10 ∧ Aside0 (headgatelaw32_PressureParts.j0 kq t235 t239 t240 t248 x68_10 t232 t233 t234 = some r) ∧ Aside0 (kq ≤ k) ∧ Aside0 (Kd.R (Kd.int .i64) 3 wc w.heap.size (fun _ => True) (.slice Ao16 t235.length co16) t235) ∧ Aside0 (Kd.R Kd.bool 4 wc w.heap.size (fun k_ => some k_ ≠ (v249 : Value).ownBlock) v241 t240) ∧ Aside0 (Kd.R Kd.bool 4 wc w.heap.size (fun k_ => some k_ ≠ (v241 : Value).ownBlock) v249 t248) ∧ Aside0 (wc.heap[gb238]? = some (.cells #[.int .i64 t232, .int .i64 t233, .int .i64 t234] 23 (0, 0))) ∧ Aside0 (Kd.C (Kd.int .i64) wc Ao16 y244.length y244) ∧ Aside0 (Below w.heap.size w wc))
      case first =>
        have H := HC11.out
        clear HC11
        by_cases c21 : t243 = 0
        · rw [if_pos c21] at H
          have c21b0 : (t243 == 0) = true := beq_iff_eq.mpr c21
          have c21b1 : (t243 != 0) = false := bne_eq_false_iff_eq.mpr c21
          clear c21
          (first | rw [c21b0] | (simp only [i64_w, i32_w]; rw [c21b0]) | skip)
          by_cases c22 : t251 = 0
          · rw [if_pos c22] at H
            have c22b0 : (t251 == 0) = true := beq_iff_eq.mpr c22
            have c22b1 : (t251 != 0) = false := bne_eq_false_iff_eq.mpr c22
            clear c22
            by_cases c23 : (t240.length : Int) = (t235.length : Int)
            · rw [if_pos c23] at H
              have c23b0 : ((t240.length : Int) == (t235.length : Int)) = true := beq_iff_eq.mpr c23
              have c23b1 : ((t240.length : Int) != (t235.length : Int)) = false := bne_eq_false_iff_eq.mpr c23
              have c23b2 : (t240.length == t235.length) = true := by first | simpa using c23 | (simp at c23 ⊢; omega)
              clear c23
              have c24b0 := eq_true (of_decide_eq_true (by first | (with_reducible assumption) | assumption) : 0 ≤ t239)
              by_cases c25 : t239 ≤ (t240.length : Int)
              · rw [if_pos c25] at H
                have c25b0 := eq_true c25
                have c25b1 : decide (t239 ≤ (t240.length : Int)) = true := decide_eq_true c25
                clear c25
                obtain ⟨y252, hy252⟩ : ∃ y_ : List Bool, y_ = (t240.take (t239 : Int).toNat) := ⟨_, rfl⟩
                replace H : ((headgatekit_SameBools.f k t248 y252).bind fun t256 => (headgatelaw32_PressureParts.j0 k t235 t239 t240 t248 (!t256) t232 t233 t234)) = some r := by first | (rw [hy252]; with_reducible exact H) | (have H2_ := (Option.bind_some _ _).symm.trans H; rw [hy252]; with_reducible exact H2_) | (have H2_ := (Option.bind_some _ _).symm.trans H; with_reducible exact H2_) | with_reducible exact H | (rw [hy252]; exact H) | exact H
                have Ny252 := Aside0.mk hy252
                clear hy252
                replace H := Option.bind_eq_some_iff.mp H
                obtain ⟨t256, A260, H⟩ := H
                replace H : (headgatelaw32_PressureParts.j0 k t235 t239 t240 t248 (!t256) t232 t233 t234) = some r := H
                have A26 := Aside0.mk A260
                clear A260
                have H' := Aside0.mk H
                clear H
                obtain ⟨Ao27, co27, eo27⟩ := Kd.R_slice HO242.out
                subst eo27
                have q28 : (t239 : Int) ≤ ((t240.length : Int) : Int) := of_decide_eq_true (by first | (with_reducible assumption) | assumption)
                obtain ⟨i028, hi028, _, hsz28, _⟩ := info_parts info4
                have hroom28 : t240.length ≤ co27 := (Kd.R_reads' HO242.out).2.1
                have hC28 : Kd.C Kd.bool _ Ao27 t240.length t240 := (Kd.R_reads' HO242.out).2.2
                have hcut28 := cut_to (P := Try.prog) 38 4 .i64 Try.underlying38 hi028 Ao27 t240.length co27 t239 (of_decide_eq_true (by first | (with_reducible assumption) | assumption)) q28 hroom28
                have hr28 := Kd.C_take (m := (t239 : Int).toNat) hC28 (by omega)
                have hy28 : y252.length = (t239 : Int).toNat := (by rw [Ny252.out, List.length_take]; omega)
                rw [← Ny252.out] at hr28
                rw [← hy28] at hcut28
                have HR255 := Aside0.mk hr28
                have HC255 := Aside0.mk (show y252.length ≤ co27 from by omega)
                clear hr28 hC28 hroom28 hi028 hsz28
                have KY28 := Aside0.mk hy28
                clear hy28
                have KL28 := Aside0.mk (show (t239 : Int).toNat ≤ t240.length from by omega)
                replace q28 := eq_true q28
                obtain ⟨Ao29, co29, eo29⟩ := Kd.R_slice HO250.out
                subst eo29
                go_wp2_with (first | (go_at_call 22; (with_reducible refine (headgatekit_SameBools.calls k _ _ t248 _ _ y252 t256 _ ?side1 ?side2 ?side3 ?side4 A26.out).mono ?_); (case side1 => repeat (first | exact (Kd.R_reads' HO250.out).2.2 | (with_reducible refine Kd.C_alloc ?_ _) | (with_reducible refine Kd.C_drewN ?_ _) | (with_reducible refine Kd.C_drew ?_))); (case side2 => exact (Kd.R_reads' HO250.out).2.1); (case side3 => repeat (first | exact (by repeat (first | (with_reducible exact HR255.out) | (with_reducible refine Kd.C_alloc ?_ _) | (with_reducible refine Kd.C_drewN ?_ _) | (with_reducible refine Kd.C_drew ?_) | exact HR255.out)) | (with_reducible refine Kd.C_alloc ?_ _) | (with_reducible refine Kd.C_drewN ?_ _) | (with_reducible refine Kd.C_drew ?_))); (case side4 => exact HC255.out); rintro e w' ⟨rfl, ⟨nd, rfl⟩⟩))
                go_meet
                case rel => exact ⟨_, (!t256), (by first | rfl | (simp; done) | (simp [*]; done)), H', ⟨by first | omega | exact Nat.le_refl _⟩, ⟨by (with_reducible repeat (first | apply Kd.R_alloc | apply Kd.R_drewN | apply Kd.R_drew)); exact HO237.out⟩, ⟨by (with_reducible repeat (first | apply Kd.R_alloc | apply Kd.R_drewN | apply Kd.R_drew)); exact Kd.R_mono HO242.out (fun _ hk => hk.2)⟩, ⟨by (with_reducible repeat (first | apply Kd.R_alloc | apply Kd.R_drewN | apply Kd.R_drew)); exact Kd.R_mono HO250.out (fun _ hk => hk.2)⟩, ⟨by (with_reducible repeat (first | refine blk_drewN ?_ _ | refine blk_drew ?_ | refine blk_alloc ?_ _)); exact BK238.out⟩, ⟨by repeat (first | (with_reducible exact HR247.out) | (with_reducible refine Kd.C_alloc ?_ _) | (with_reducible refine Kd.C_drewN ?_ _) | (with_reducible refine Kd.C_drew ?_) | exact HR247.out)⟩, ⟨by repeat (first | (with_reducible first | exact HB.out | apply below_alloc | apply pw_below_drewN | apply below_drew1 | refine below_set ?_ GE238.out) | exact HB.out)⟩⟩
              · rw [if_neg c25] at H
                exact absurd H (by simp)
            · rw [if_neg c23] at H
              have c23b0 : ((t240.length : Int) == (t235.length : Int)) = false := beq_eq_false_iff_ne.mpr c23
              have c23b1 : ((t240.length : Int) != (t235.length : Int)) = true := bne_iff_ne.mpr c23
              have c23b2 : (t240.length == t235.length) = false := by first | simpa using c23 | (simp at c23 ⊢; omega)
              have H' := Aside0.mk H
              clear H
              obtain ⟨Ao30, co30, eo30⟩ := Kd.R_slice HO242.out
              subst eo30
              go_wp2
              go_meet
              case rel => exact ⟨_, (true), (by first | rfl | (simp; done) | (simp [*]; done)), H', ⟨by first | omega | exact Nat.le_refl _⟩, ⟨by (with_reducible repeat (first | apply Kd.R_alloc | apply Kd.R_drewN | apply Kd.R_drew)); exact HO237.out⟩, ⟨by (with_reducible repeat (first | apply Kd.R_alloc | apply Kd.R_drewN | apply Kd.R_drew)); exact Kd.R_mono HO242.out (fun _ hk => hk.2)⟩, ⟨by (with_reducible repeat (first | apply Kd.R_alloc | apply Kd.R_drewN | apply Kd.R_drew)); exact Kd.R_mono HO250.out (fun _ hk => hk.2)⟩, ⟨by (with_reducible repeat (first | refine blk_drewN ?_ _ | refine blk_drew ?_ | refine blk_alloc ?_ _)); exact BK238.out⟩, ⟨by repeat (first | (with_reducible exact HR247.out) | (with_reducible refine Kd.C_alloc ?_ _) | (with_reducible refine Kd.C_drewN ?_ _) | (with_reducible refine Kd.C_drew ?_) | exact HR247.out)⟩, ⟨by repeat (first | (with_reducible first | exact HB.out | apply below_alloc | apply pw_below_drewN | apply below_drew1 | refine below_set ?_ GE238.out) | exact HB.out)⟩⟩
          · rw [if_neg c22] at H
            have c22b0 : (t251 == 0) = false := beq_eq_false_iff_ne.mpr c22
            have c22b1 : (t251 != 0) = true := bne_iff_ne.mpr c22
            have H' := Aside0.mk H
            clear H
            go_wp2
            go_meet
            case rel => exact ⟨_, (true), (by first | rfl | (simp; done) | (simp [*]; done)), H', ⟨by first | omega | exact Nat.le_refl _⟩, ⟨by (with_reducible repeat (first | apply Kd.R_alloc | apply Kd.R_drewN | apply Kd.R_drew)); exact HO237.out⟩, ⟨by (with_reducible repeat (first | apply Kd.R_alloc | apply Kd.R_drewN | apply Kd.R_drew)); exact Kd.R_mono HO242.out (fun _ hk => hk.2)⟩, ⟨by (with_reducible repeat (first | apply Kd.R_alloc | apply Kd.R_drewN | apply Kd.R_drew)); exact Kd.R_mono HO250.out (fun _ hk => hk.2)⟩, ⟨by (with_reducible repeat (first | refine blk_drewN ?_ _ | refine blk_drew ?_ | refine blk_alloc ?_ _)); exact BK238.out⟩, ⟨by repeat (first | (with_reducible exact HR247.out) | (with_reducible refine Kd.C_alloc ?_ _) | (with_reducible refine Kd.C_drewN ?_ _) | (with_reducible refine Kd.C_drew ?_) | exact HR247.out)⟩, ⟨by repeat (first | (with_reducible first | exact HB.out | apply below_alloc | apply pw_below_drewN | apply below_drew1 | refine below_set ?_ GE238.out) | exact HB.out)⟩⟩
        · rw [if_neg c21] at H
          have c21b0 : (t243 == 0) = false := beq_eq_false_iff_ne.mpr c21
          have c21b1 : (t243 != 0) = true := bne_iff_ne.mpr c21
          (first | rw [c21b0] | (simp only [i64_w, i32_w]; rw [c21b0]) | skip)
          have H' := Aside0.mk H
          clear H
          go_wp2
          go_meet
          case rel => exact ⟨_, (true), (by first | rfl | (simp; done) | (simp [*]; done)), H', ⟨by first | omega | exact Nat.le_refl _⟩, ⟨by (with_reducible repeat (first | apply Kd.R_alloc | apply Kd.R_drewN | apply Kd.R_drew)); exact HO237.out⟩, ⟨by (with_reducible repeat (first | apply Kd.R_alloc | apply Kd.R_drewN | apply Kd.R_drew)); exact Kd.R_mono HO242.out (fun _ hk => hk.2)⟩, ⟨by (with_reducible repeat (first | apply Kd.R_alloc | apply Kd.R_drewN | apply Kd.R_drew)); exact Kd.R_mono HO250.out (fun _ hk => hk.2)⟩, ⟨by (with_reducible repeat (first | refine blk_drewN ?_ _ | refine blk_drew ?_ | refine blk_alloc ?_ _)); exact BK238.out⟩, ⟨by repeat (first | (with_reducible exact HR247.out) | (with_reducible refine Kd.C_alloc ?_ _) | (with_reducible refine Kd.C_drewN ?_ _) | (with_reducible refine Kd.C_drew ?_) | exact HR247.out)⟩, ⟨by repeat (first | (with_reducible first | exact HB.out | apply below_alloc | apply pw_below_drewN | apply below_drew1 | refine below_set ?_ GE238.out) | exact HB.out)⟩⟩
      case rest =>
        clear HC11
        try clear c1
        try clear q1
        try clear c2
        try clear p2
        try clear q2
        try clear c5
        try clear p6
        try clear c8
        try clear c8b0
        try clear c8b1
        try clear c9
        try clear c9b0
        try clear c9b1
        try clear c18
        try clear c19
        try clear q19
        try clear c20
        try clear c21
        try clear c21b0
        try clear c21b1
        try clear c22
        try clear c22b0
        try clear c22b1
        try clear c23
        try clear c23b0
        try clear c23b1
        try clear c23b2
        try clear c24
        try clear c24b0
        try clear c25
        try clear c25b0
        try clear c25b1
        try clear q28
        try clear hcz15_0
        try clear hcz15_1
        try clear hcz15_2
        try clear hfz15_0
        try clear hfz15_1
        try clear hfz15_2
        try clear q19
        try clear q28
        obtain ⟨kq, x68_10, rfl, HA, HJ10, HO_8, HO_10, HO_12, BK238, HR247, HB⟩ := hcut
        cases kq with
        | zero => exact absurd HA.out (by simp [headgatelaw32_PressureParts.j0])
        | succ kj10 =>
          have H := HA.out
          clear HA
          simp only [headgatelaw32_PressureParts.j0] at H
          by_cases c31 : x68_10 = true
          · subst c31
            have H1 : (some false) = some r := by rw [if_pos rfl] at H; exact H
            clear H
            have H := H1
            clear H1
            exact absurd ((Option.some.inj H).trans hT.out) (by decide)
          · replace c31 := Bool.eq_false_iff.mpr c31
            subst c31
            have H1 : (if t239 > 0 then (if 0 ≤ (wrap64 (t239 - 1)) then (if (wrap64 (t239 - 1)) < (t248.length : Int) then (headgatelaw32_PressureParts.j1 kj10 t235 t239 t240 (rdOf false t248 (wrap64 (t239 - 1))) t232 t233 t234) else (none)) else (none)) else (headgatelaw32_PressureParts.j1 kj10 t235 t239 t240 false t232 t233 t234)) = some r := by rw [if_neg (show ¬ (false = true) by decide)] at H; exact H
            clear H
            have H := H1
            clear H1
            have HC32 := Aside0.mk H
            clear H
            go_upto_region 7 with (fail)
            go_cut [14] (fun v14 wc => ∃ (kq : Nat) (x14_31 : Bool), v14 = .bool x14_31 ∧ Aside0 (headgatelaw32_PressureParts.j1 kq t235 t239 t240 x14_31 t232 t233 t234 = some r) ∧ Aside0 (kq ≤ kj10) ∧ Aside0 (Kd.R (Kd.int .i64) 3 wc w.heap.size (fun _ => True) (.slice Ao16 t235.length co16) t235) ∧ Aside0 (Kd.R Kd.bool 4 wc w.heap.size (fun _ => True) v241 t240) ∧ Aside0 (wc.heap[gb238]? = some (.cells #[.int .i64 t232, .int .i64 t233, .int .i64 t234] 23 (0, 0))) ∧ Aside0 (Kd.C (Kd.int .i64) wc Ao16 y244.length y244) ∧ Aside0 (Below w.heap.size w wc))
            case first =>
              have H := HC32.out
              clear HC32
              by_cases c33 : t239 > 0
              · rw [if_pos c33] at H
                have c33b0 : decide (0 < t239) = true := decide_eq_true c33
                clear c33
                (first | rw [c33b0] | (simp only [i64_w, i32_w]; rw [c33b0]) | skip)
                obtain ⟨ji34, hji34⟩ : ∃ j_ : Int, (wrap64 (t239 - 1)) = j_ := ⟨_, rfl⟩
                replace H : (if 0 ≤ (ji34) then (if (ji34) < (t248.length : Int) then (headgatelaw32_PressureParts.j1 kj10 t235 t239 t240 (rdOf false t248 (ji34)) t232 t233 t234) else (none)) else (none)) = some r := by first | (rw [hji34] at H; exact H) | (simp only [hji34] at H ⊢; exact H)
                have hji34w : (IntKind.i64.wrap (t239 - 1)) = ji34 := (i64_w _).trans hji34
                by_cases c35 : 0 ≤ (ji34)
                · rw [if_pos c35] at H
                  have c35b0 : decide (0 ≤ (ji34)) = true := decide_eq_true c35
                  clear c35
                  by_cases c36 : (ji34) < (t248.length : Int)
                  · rw [if_pos c36] at H
                    have c36b0 : decide ((ji34) < (t248.length : Int)) = true := decide_eq_true c36
                    clear c36
                    have H' := Aside0.mk H
                    clear H
                    obtain ⟨Ao37, co37, eo37⟩ := Kd.R_slice HO_12.out
                    subst eo37
                    have p257 : 0 ≤ ((ji34) : Int) := of_decide_eq_true (by first | (with_reducible assumption) | assumption)
                    have q257 : (ji34) < (t248.length : Int) := of_decide_eq_true (by first | (with_reducible assumption) | assumption)
                    obtain ⟨ad257, e257, hx257_0⟩ := Kd.at_bool (Kd.R_reads' HO_12.out).2.2 (ji34) p257 q257
                    cases e257
                    replace p257 := eq_true p257
                    replace q257 := eq_true q257
                    go_wp2
                    go_meet
                    case rel => exact ⟨_, (rdOf false t248 (ji34)), (by first | rfl | (simp; done) | (simp only [← hji34] <;> (first | rfl | simp)) | (simp [*]; done)), H', ⟨by have := HJ10.out; first | omega | exact Nat.le_refl _⟩, ⟨by (with_reducible repeat (first | apply Kd.R_alloc | apply Kd.R_drewN | apply Kd.R_drew)); exact HO_8.out⟩, ⟨by (with_reducible repeat (first | apply Kd.R_alloc | apply Kd.R_drewN | apply Kd.R_drew)); exact Kd.R_mono HO_10.out (fun _ hk => trivial)⟩, ⟨by (with_reducible repeat (first | refine blk_drewN ?_ _ | refine blk_drew ?_ | refine blk_alloc ?_ _)); exact BK238.out⟩, ⟨by repeat (first | (with_reducible exact HR247.out) | (with_reducible refine Kd.C_alloc ?_ _) | (with_reducible refine Kd.C_drewN ?_ _) | (with_reducible refine Kd.C_drew ?_) | exact HR247.out)⟩, ⟨by repeat (first | (with_reducible first | exact HB.out | apply below_alloc | apply pw_below_drewN | apply below_drew1 | refine below_set ?_ GE238.out) | exact HB.out)⟩⟩
                  · rw [if_neg c36] at H
                    exact absurd H (by simp)
                · rw [if_neg c35] at H
                  exact absurd H (by simp)
              · rw [if_neg c33] at H
                have c33b0 : decide (0 < t239) = false := decide_eq_false c33
                clear c33
                (first | rw [c33b0] | (simp only [i64_w, i32_w]; rw [c33b0]) | skip)
                have H' := Aside0.mk H
                clear H
                go_wp2
                go_meet
                case rel => exact ⟨_, (false), (by first | rfl | (simp; done) | (simp [*]; done)), H', ⟨by have := HJ10.out; first | omega | exact Nat.le_refl _⟩, ⟨by (with_reducible repeat (first | apply Kd.R_alloc | apply Kd.R_drewN | apply Kd.R_drew)); exact HO_8.out⟩, ⟨by (with_reducible repeat (first | apply Kd.R_alloc | apply Kd.R_drewN | apply Kd.R_drew)); exact Kd.R_mono HO_10.out (fun _ hk => trivial)⟩, ⟨by (with_reducible repeat (first | refine blk_drewN ?_ _ | refine blk_drew ?_ | refine blk_alloc ?_ _)); exact BK238.out⟩, ⟨by repeat (first | (with_reducible exact HR247.out) | (with_reducible refine Kd.C_alloc ?_ _) | (with_reducible refine Kd.C_drewN ?_ _) | (with_reducible refine Kd.C_drew ?_) | exact HR247.out)⟩, ⟨by repeat (first | (with_reducible first | exact HB.out | apply below_alloc | apply pw_below_drewN | apply below_drew1 | refine below_set ?_ GE238.out) | exact HB.out)⟩⟩
            case rest =>
              clear HC32
              try clear c1
              try clear q1
              try clear c2
              try clear p2
              try clear q2
              try clear hx2
              try clear c3
              try clear c5
              try clear p6
              try clear c8
              try clear c8b0
              try clear c8b1
              try clear c9
              try clear c9b0
              try clear c9b1
              try clear c18
              try clear c19
              try clear q19
              try clear c20
              try clear c21
              try clear c21b0
              try clear c21b1
              try clear c22
              try clear c22b0
              try clear c22b1
              try clear c23
              try clear c23b0
              try clear c23b1
              try clear c23b2
              try clear c24
              try clear c24b0
              try clear c25
              try clear c25b0
              try clear c25b1
              try clear p25
              try clear q25
              try clear hx25
              try clear q28
              try clear c31
              try clear c33
              try clear c33b0
              try clear c35
              try clear c35b0
              try clear c36
              try clear c36b0
              try clear hcz15_0
              try clear hcz15_1
              try clear hcz15_2
              try clear hfz15_0
              try clear hfz15_1
              try clear hfz15_2
              try clear hx257_0
              try clear p2
              try clear p257
              try clear p6
              try clear q1
              try clear q19
              try clear q2
              try clear q257
              try clear q28
              obtain ⟨kq, x14_31, rfl, HA, HJ31, HO_8, HO_10, BK238, HR247, HB⟩ := hcut
              cases kq with
              | zero => exact absurd HA.out (by simp [headgatelaw32_PressureParts.j1])
              | succ kj31 =>
                have H := HA.out
                clear HA
                simp only [headgatelaw32_PressureParts.j1] at H
                have H' := Aside0.mk H
                clear H
                go_wp2
                go_loopg [14, 15] kj31 (fun kq v14 v15 w' => ∃ (x14_3 : Bool) (x15_3 : Int), v14 = .bool x14_3 ∧ v15 = .int .i64 x15_3 ∧ Aside0 (headgatelaw32_PressureParts.l0 kq t235 t239 t240 x14_3 x15_3 t232 t233 t234 = some r) ∧ Aside0 (kq ≤ kj31) ∧ Aside0 (Kd.R (Kd.int .i64) 3 w' w.heap.size (fun _ => True) (.slice Ao16 t235.length co16) t235) ∧ Aside0 (Kd.R Kd.bool 4 w' w.heap.size (fun _ => True) v241 t240) ∧ Aside0 (w'.heap[gb238]? = some (.cells #[.int .i64 t232, .int .i64 t233, .int .i64 t234] 23 (0, 0))) ∧ Aside0 (Kd.C (Kd.int .i64) w' Ao16 y244.length y244) ∧ Aside0 (Below w.heap.size w w'))
                case atStart => exact ⟨(x14_31), (t239), (by first | rfl | (simp; done) | (simp [*]; done)), (by first | rfl | (simp; done) | (simp [*]; done)), H', ⟨Nat.le_refl _⟩, ⟨by (with_reducible repeat (first | apply Kd.R_alloc | apply Kd.R_drewN | apply Kd.R_drew)); exact HO_8.out⟩, ⟨by (with_reducible repeat (first | apply Kd.R_alloc | apply Kd.R_drewN | apply Kd.R_drew)); exact HO_10.out⟩, ⟨by (with_reducible repeat (first | refine blk_drewN ?_ _ | refine blk_drew ?_ | refine blk_alloc ?_ _)); exact BK238.out⟩, ⟨by repeat (first | (with_reducible exact HR247.out) | (with_reducible refine Kd.C_alloc ?_ _) | (with_reducible refine Kd.C_drewN ?_ _) | (with_reducible refine Kd.C_drew ?_) | exact HR247.out)⟩, ⟨by repeat (first | (with_reducible first | exact HB.out | apply below_alloc | apply pw_below_drewN | apply below_drew1 | refine below_set ?_ GE238.out) | exact HB.out)⟩⟩
                case round =>
                  clear H'
                  try clear c1
                  try clear q1
                  try clear c2
                  try clear p2
                  try clear q2
                  try clear hx2
                  try clear c3
                  try clear c5
                  try clear p6
                  try clear c8
                  try clear c8b0
                  try clear c8b1
                  try clear c9
                  try clear c9b0
                  try clear c9b1
                  try clear c18
                  try clear c19
                  try clear q19
                  try clear c20
                  try clear c21
                  try clear c21b0
                  try clear c21b1
                  try clear c22
                  try clear c22b0
                  try clear c22b1
                  try clear c23
                  try clear c23b0
                  try clear c23b1
                  try clear c23b2
                  try clear c24
                  try clear c24b0
                  try clear c25
                  try clear c25b0
                  try clear c25b1
                  try clear p25
                  try clear q25
                  try clear hx25
                  try clear q28
                  try clear c31
                  try clear c33
                  try clear c33b0
                  try clear c35
                  try clear c35b0
                  try clear c36
                  try clear c36b0
                  try clear hcz15_0
                  try clear hcz15_1
                  try clear hcz15_2
                  try clear hfz15_0
                  try clear hfz15_1
                  try clear hfz15_2
                  try clear hx257_0
                  try clear p2
                  try clear p25
                  try clear p257
                  try clear p6
                  try clear q1
                  try clear q19
                  try clear q2
                  try clear q25
                  try clear q257
                  try clear q28
                  obtain ⟨x14_3, x15_3, rfl, rfl, HA, HK3, HO_8, HO_10, BK238, HR247, HB⟩ := hrel
                  cases gk with
                  | zero => exact absurd HA.out (by simp [headgatelaw32_PressureParts.l0])
                  | succ k3 =>
                    have H := HA.out
                    clear HA
                    simp only [headgatelaw32_PressureParts.l0] at H
                    by_cases c38 : x15_3 < (t235.length : Int)
                    · rw [if_pos c38] at H
                      have c38b0 : decide (x15_3 < (t235.length : Int)) = true := decide_eq_true c38
                      clear c38
                      by_cases c39 : 0 ≤ x15_3
                      · rw [if_pos c39] at H
                        have c39b0 : decide (0 ≤ x15_3) = true := decide_eq_true c39
                        clear c39
                        replace H := Option.bind_eq_some_iff.mp H
                        obtain ⟨⟨t259, t260⟩, A400, H⟩ := H
                        replace H : (if t260 = 0 then (if x15_3 < (t240.length : Int) then (if (t259 != (rdOf false t240 x15_3)) = true then (some false) else (headgatelaw32_PressureParts.l0 k3 t235 t239 t240 t259 (wrap64 (x15_3 + 1)) t232 t233 t234)) else (none)) else (some false)) = some r := H
                        have A40 := Aside0.mk A400
                        clear A400
                        by_cases c41 : t260 = 0
                        · rw [if_pos c41] at H
                          have c41b0 : (t260 == 0) = true := beq_iff_eq.mpr c41
                          have c41b1 : (t260 != 0) = false := bne_eq_false_iff_eq.mpr c41
                          clear c41
                          by_cases c42 : x15_3 < (t240.length : Int)
                          · rw [if_pos c42] at H
                            have c42b0 : decide (x15_3 < (t240.length : Int)) = true := decide_eq_true c42
                            clear c42
                            by_cases c43 : (t259 != (rdOf false t240 x15_3)) = true
                            · rw [if_pos c43] at H
                              have c43b0 : (t259 != (rdOf false t240 x15_3)) = true := c43
                              (try (have c43b1 : decide (t259 = (rdOf false t240 x15_3)) = false := by simpa using c43))
                              (try (have c43b2 : (t259 == (rdOf false t240 x15_3)) = false := by simpa using c43))
                              (try (have c43b3 : ¬ (t259 = (rdOf false t240 x15_3)) := by simpa using c43))
                              clear c43
                              exact absurd ((Option.some.inj H).trans hT.out) (by decide)
                            · rw [if_neg c43] at H
                              have c43b0 : (t259 != (rdOf false t240 x15_3)) = false := by simpa using c43
                              (try (have c43b1 : decide (t259 = (rdOf false t240 x15_3)) = true := by simpa using c43))
                              (try (have c43b2 : (t259 == (rdOf false t240 x15_3)) = true := by simpa using c43))
                              clear c43
                              have H' := Aside0.mk H
                              clear H
                              try go_wp2
                              have n0_ := Aside0.mk (Kd.R_drew HO_8.out)
                              have n1_ := Aside0.mk (Kd.R_drew HO_10.out)
                              have n2_ := Aside0.mk (blk_drew BK238.out)
                              have n3_ := Aside0.mk (Kd.C_drew HR247.out)
                              have n4_ := Aside0.mk (below_drew1 HB.out)
                              clear HO_8
                              clear HO_10
                              clear BK238
                              clear HR247
                              clear HB
                              have HO_8 := n0_
                              have HO_10 := n1_
                              have BK238 := n2_
                              have HR247 := n3_
                              have HB := n4_
                              clear n0_ n1_ n2_ n3_ n4_
                              have p258 : 0 ≤ (x15_3 : Int) := of_decide_eq_true (by first | (with_reducible assumption) | assumption)
                              have q258 : x15_3 < (t235.length : Int) := of_decide_eq_true (by first | (with_reducible assumption) | assumption)
                              obtain ⟨ad258, e258, hx258_0⟩ := Kd.at_int (Kd.R_reads' HO_8.out).2.2 x15_3 p258 q258
                              cases e258
                              replace p258 := eq_true p258
                              replace q258 := eq_true q258
                              refine start_ (n := 12) (S := fun w' => w'.cell? ⟨gb238, 0, none⟩ = some (.int .i64 t232) ∧ w'.cell? ⟨gb238, 1, none⟩ = some (.int .i64 t233) ∧ w'.cell? ⟨gb238, 2, none⟩ = some (.int .i64 t234) ∧ w'.cell? (ad258.add (x15_3).toNat) = some (.int .i64 (rd t235 x15_3))) (ds := []) #[false, false, false, false, false, false, false, false, false, false, false, false] (by kernel_rfl) rfl rfl ⟨(blk_cell BK238.out 0).trans rfl, (blk_cell BK238.out 1).trans rfl, (blk_cell BK238.out 2).trans rfl, hx258_0⟩ (fun hHeld => ?_); refine with_tabW headgatelaw32_PressureParts.tab11 headgatelaw32_PressureParts.bits11 (fun HT_ HW_ => ?_)
                              generalize wr.drew = w44 at HO_8 HO_10 BK238 HR247 HB hx258_0 hHeld ⊢
                              refine pure_ (i := 1) (N := some 87) (v := ?_) (a' := ?_) #[false, true, false, false, false, false, false, false, false, false, false, false] rfl rfl (any_of HT_.out (by kernel_rfl)) (fun _ _ _ h => h) (Or.inl ⟨by rfl, ?_⟩) ?_ ?_
                              rotate_left
                              · intro w'
                                go_simp
                                with_reducible rfl
                              rotate_left
                              · simp only [Act.put, List.setIfInBounds_toArray, List.set_cons_zero, List.set_cons_succ, i64_w, i32_w]
                                rfl
                              refine pure_ (i := 2) (N := some 88) (v := ?_) (a' := ?_) #[false, true, true, false, false, false, false, false, false, false, false, false] rfl rfl (any_of HT_.out (by kernel_rfl)) (fun _ _ _ h => h) (Or.inl ⟨by rfl, ?_⟩) ?_ ?_
                              rotate_left
                              · intro w'
                                go_simp
                                with_reducible rfl
                              rotate_left
                              · simp only [Act.put, List.setIfInBounds_toArray, List.set_cons_zero, List.set_cons_succ, i64_w, i32_w]
                                rfl
                              refine pure_ (i := 3) (N := some 89) (v := ?_) (a' := ?_) #[false, true, true, true, false, false, false, false, false, false, false, false] rfl rfl (any_of HT_.out (by kernel_rfl)) (fun _ _ _ h => h) (Or.inl ⟨by rfl, ?_⟩) ?_ ?_
                              rotate_left
                              · intro w'
                                go_simp
                                with_reducible rfl
                              rotate_left
                              · simp only [Act.put, List.setIfInBounds_toArray, List.set_cons_zero, List.set_cons_succ, i64_w, i32_w]
                                rfl
                              refine pure_ (i := 4) (N := some 90) (v := ?_) (a' := ?_) #[false, true, true, true, true, false, false, false, false, false, false, false] rfl rfl (any_of HT_.out (by kernel_rfl)) (fun _ _ _ h => h) (Or.inl ⟨by rfl, ?_⟩) ?_ ?_
                              rotate_left
                              · intro w'
                                go_simp
                                with_reducible rfl
                              rotate_left
                              · simp only [Act.put, List.setIfInBounds_toArray, List.set_cons_zero, List.set_cons_succ, i64_w, i32_w]
                                rfl
                              refine take_ (i := 0) (N := some 86) (v := ?_) (a' := ?_) #[true, true, true, true, true, false, false, false, false, false, false, false] rfl rfl (take_ofW HT_.out HW_.out (by kernel_rfl)) (fun _ _ _ h => h) (Or.inl ⟨by rfl, ?_⟩) hHeld ?_ ?_
                              rotate_left
                              · rintro w' ⟨s0, s1, s2, s3⟩
                                go_simp
                                with_reducible rfl
                              rotate_left
                              · simp only [Act.put, List.setIfInBounds_toArray, List.set_cons_zero, List.set_cons_succ, i64_w, i32_w]
                                rfl
                              refine take_ (i := 5) (N := some 91) (v := ?_) (a' := ?_) #[true, true, true, true, true, true, false, false, false, false, false, false] rfl rfl (take_ofW HT_.out HW_.out (by kernel_rfl)) (fun _ _ _ h => h) (Or.inl ⟨by rfl, ?_⟩) hHeld ?_ ?_
                              rotate_left
                              · rintro w' ⟨s0, s1, s2, s3⟩
                                go_simp
                                with_reducible rfl
                              rotate_left
                              · simp only [Act.put, List.setIfInBounds_toArray, List.set_cons_zero, List.set_cons_succ, i64_w, i32_w]
                                rfl
                              refine one_ (i := 6) (N := some 92) #[true, true, true, true, true, true, true, false, false, false, false, false] rfl rfl (one_of HT_.out (by kernel_rfl)) (by decide) (fun K hK => ?_)
                              refine goes_ Try.func13 (by kernel_rfl) rfl #[.agg #[.int .i64 t232, .int .i64 t233, .int .i64 t234], .bool x14_3, .int .i64 (rd t235 x15_3)] (by rfl) rfl rfl (by (try simp only [List.map_toArray, List.map_cons, List.map_nil]); first | done | rfl | (simp only [List.length_drop, List.length_take]; rfl)) ?_
                              with_reducible refine (pressure_Next.calls k3 t232 t233 t234 x14_3 (rd t235 x15_3) t259 t260 _ A40.out).mono ?_
                              rintro e w45 ⟨rfl, hb⟩
                              have HS3_ := (hb.cell (World.block_lt_of_cell? _ _ (hHeld.2.2.2))).trans (hHeld.2.2.2)
                              refine ⟨_, rfl, ?_⟩
                              have n0_ := Aside0.mk (Kd.R_below (by (with_reducible repeat (first | apply Kd.R_alloc | apply Kd.R_drewN | apply Kd.R_drew)); exact HO_8.out) hb)
                              have n1_ := Aside0.mk (Kd.R_below (by (with_reducible repeat (first | apply Kd.R_alloc | apply Kd.R_drewN | apply Kd.R_drew)); exact HO_10.out) hb)
                              have n2_ := Aside0.mk (blk_below (g := gb238) (o := .cells #[.int .i64 t232, .int .i64 t233, .int .i64 t234] 23 (0, 0)) (by (with_reducible repeat (first | refine blk_drewN ?_ _ | refine blk_drew ?_ | refine blk_alloc ?_ _)); exact BK238.out) hb)
                              have n3_ := Aside0.mk (Kd.C_below (by repeat (first | (with_reducible exact HR247.out) | (with_reducible refine Kd.C_alloc ?_ _) | (with_reducible refine Kd.C_drewN ?_ _) | (with_reducible refine Kd.C_drew ?_) | exact HR247.out)) hb)
                              have n4_ := Aside0.mk (below_step (by repeat (first | (with_reducible first | exact HB.out | apply below_alloc | apply pw_below_drewN | apply below_drew1 | refine below_set ?_ GE238.out) | exact HB.out)) hb)
                              clear HO_8
                              clear HO_10
                              clear BK238
                              clear HR247
                              clear HB
                              have HO_8 := n0_
                              have HO_10 := n1_
                              have BK238 := n2_
                              have HR247 := n3_
                              have HB := n4_
                              clear n0_ n1_ n2_ n3_ n4_
                              (try clear hb)
                              (try clear hb2)
                              (try clear hk)
                              (try clear hi)
                              refine hK.out _ _ ⟨(blk_cell BK238.out 0).trans rfl, (blk_cell BK238.out 1).trans rfl, (blk_cell BK238.out 2).trans rfl, HS3_⟩ (fun hHeld => ?_)
                              clear hK K
                              refine norm_ (a' := ?_) ?_ ?_
                              rotate_left
                              · show Act.put _ (some 92) _ = _
                                simp only [Act.put, List.setIfInBounds_toArray, List.set_cons_zero, List.set_cons_succ, i64_w, i32_w]
                                rfl
                              refine pure_ (i := 7) (N := some 85) (v := ?_) (a' := ?_) #[true, true, true, true, true, true, true, true, false, false, false, false] rfl rfl (any_of HT_.out (by kernel_rfl)) (fun _ _ _ h => h) (Or.inl ⟨by rfl, ?_⟩) ?_ ?_
                              rotate_left
                              · intro w'
                                go_simp
                                with_reducible rfl
                              rotate_left
                              · simp only [Act.put, List.setIfInBounds_toArray, List.set_cons_zero, List.set_cons_succ, i64_w, i32_w]
                                rfl
                              refine pure_ (i := 8) (N := some 93) (v := ?_) (a' := ?_) #[true, true, true, true, true, true, true, true, true, false, false, false] rfl rfl (any_of HT_.out (by kernel_rfl)) (fun _ _ _ h => h) (Or.inl ⟨by rfl, ?_⟩) ?_ ?_
                              rotate_left
                              · intro w'
                                go_simp
                                with_reducible rfl
                              rotate_left
                              · simp only [Act.put, List.setIfInBounds_toArray, List.set_cons_zero, List.set_cons_succ, i64_w, i32_w]
                                rfl
                              refine pure_ (i := 9) (N := some 94) (v := ?_) (a' := ?_) #[true, true, true, true, true, true, true, true, true, true, false, false] rfl rfl (any_of HT_.out (by kernel_rfl)) (fun _ _ _ h => h) (Or.inl ⟨by rfl, ?_⟩) ?_ ?_
                              rotate_left
                              · intro w'
                                go_simp
                                with_reducible rfl
                              rotate_left
                              · simp only [Act.put, List.setIfInBounds_toArray, List.set_cons_zero, List.set_cons_succ, i64_w, i32_w]
                                rfl
                              refine pure_ (i := 10) (N := some 16) (v := ?_) (a' := ?_) #[true, true, true, true, true, true, true, true, true, true, true, false] rfl rfl (any_of HT_.out (by kernel_rfl)) (fun _ _ _ h => h) (Or.inl ⟨by rfl, ?_⟩) ?_ ?_
                              rotate_left
                              · intro w'
                                go_simp
                                with_reducible rfl
                              rotate_left
                              · simp only [Act.put, List.setIfInBounds_toArray, List.set_cons_zero, List.set_cons_succ, i64_w, i32_w]
                                rfl
                              refine pure_ (i := 11) (N := some 17) (v := ?_) (a' := ?_) #[true, true, true, true, true, true, true, true, true, true, true, true] rfl rfl (any_of HT_.out (by kernel_rfl)) (fun _ _ _ h => h) (Or.inl ⟨by rfl, ?_⟩) ?_ ?_
                              rotate_left
                              · intro w'
                                go_simp
                                with_reducible rfl
                              rotate_left
                              · simp only [Act.put, List.setIfInBounds_toArray, List.set_cons_zero, List.set_cons_succ, i64_w, i32_w]
                                rfl
                              refine done_ (done_of HT_.out (by kernel_rfl)) ?_
                              obtain ⟨Ao46, co46, eo46⟩ := Kd.R_slice HO_10.out
                              subst eo46
                              have p261 : 0 ≤ (x15_3 : Int) := of_decide_eq_true (by first | (with_reducible assumption) | assumption)
                              have q261 : x15_3 < (t240.length : Int) := of_decide_eq_true (by first | (with_reducible assumption) | assumption)
                              obtain ⟨ad261, e261, hx261_0⟩ := Kd.at_bool (Kd.R_reads' HO_10.out).2.2 x15_3 p261 q261
                              cases e261
                              replace p261 := eq_true p261
                              replace q261 := eq_true q261
                              try go_wp2
                              go_roundg k3
                              case measure => have := HJ10.out; have := HJ31.out; have := HK3.out; omega
                              case rel => exact ⟨(t259), (wrap64 (x15_3 + 1)), (by first | rfl | (simp; done) | (simp [*]; done)), (by first | rfl | (simp; done) | (simp [*]; done)), H', ⟨by have := HJ10.out; have := HJ31.out; have := HK3.out; omega⟩, ⟨by (with_reducible repeat (first | apply Kd.R_alloc | apply Kd.R_drewN | apply Kd.R_drew)); exact HO_8.out⟩, ⟨by (with_reducible repeat (first | apply Kd.R_alloc | apply Kd.R_drewN | apply Kd.R_drew)); exact HO_10.out⟩, ⟨by (with_reducible repeat (first | refine blk_drewN ?_ _ | refine blk_drew ?_ | refine blk_alloc ?_ _)); exact BK238.out⟩, ⟨by repeat (first | (with_reducible exact HR247.out) | (with_reducible refine Kd.C_alloc ?_ _) | (with_reducible refine Kd.C_drewN ?_ _) | (with_reducible refine Kd.C_drew ?_) | exact HR247.out)⟩, ⟨by repeat (first | (with_reducible first | exact HB.out | apply below_alloc | apply pw_below_drewN | apply below_drew1 | refine below_set ?_ GE238.out) | exact HB.out)⟩⟩
                          · rw [if_neg c42] at H
                            exact absurd H (by simp)
                        · rw [if_neg c41] at H
                          have c41b0 : (t260 == 0) = false := beq_eq_false_iff_ne.mpr c41
                          have c41b1 : (t260 != 0) = true := bne_iff_ne.mpr c41
                          exact absurd ((Option.some.inj H).trans hT.out) (by decide)
                      · rw [if_neg c39] at H
                        exact absurd H (by simp)
                    · rw [if_neg c38] at H
                      have c38b0 : decide (x15_3 < (t235.length : Int)) = false := decide_eq_false c38
                      clear c38
                      replace H := Option.bind_eq_some_iff.mp H
                      obtain ⟨⟨t262, t263, t264⟩, A470, H⟩ := H
                      replace H : (if 0 ≤ t239 then (if t239 ≤ (t235.length : Int) then ((pressure_Worst.f k3 t232 t233 t234 (t235.take (t239 : Int).toNat)).bind fun bt269 => ((pressure_Worst.f k3 t232 t233 t234 (t235.drop (t239 : Int).toNat)).bind fun bt276 => (if t264 = 0 then (if bt269.2.2 = 0 then (if bt276.2.2 = 0 then (if t262 = (mx bt269.1 bt276.1) then ((headgatelaw32_awake.f k3).bind fun t279 => (some t279)) else (some false)) else (some false)) else (some false)) else (some false)))) else (none)) else (none)) = some r := H
                      have A47 := Aside0.mk A470
                      clear A470
                      by_cases c48 : 0 ≤ t239
                      · rw [if_pos c48] at H
                        have c48b0 := eq_true c48
                        have c48b1 : decide (0 ≤ t239) = true := decide_eq_true c48
                        clear c48
                        by_cases c49 : t239 ≤ (t235.length : Int)
                        · rw [if_pos c49] at H
                          have c49b0 := eq_true c49
                          have c49b1 : decide (t239 ≤ (t235.length : Int)) = true := decide_eq_true c49
                          clear c49
                          obtain ⟨y265, hy265⟩ : ∃ y_ : List Int, y_ = (t235.take (t239 : Int).toNat) := ⟨_, rfl⟩
                          replace H : ((pressure_Worst.f k3 t232 t233 t234 y265).bind fun bt269 => ((pressure_Worst.f k3 t232 t233 t234 (t235.drop (t239 : Int).toNat)).bind fun bt276 => (if t264 = 0 then (if bt269.2.2 = 0 then (if bt276.2.2 = 0 then (if t262 = (mx bt269.1 bt276.1) then ((headgatelaw32_awake.f k3).bind fun t279 => (some t279)) else (some false)) else (some false)) else (some false)) else (some false)))) = some r := by first | (rw [hy265]; with_reducible exact H) | (have H2_ := (Option.bind_some _ _).symm.trans H; rw [hy265]; with_reducible exact H2_) | (have H2_ := (Option.bind_some _ _).symm.trans H; with_reducible exact H2_) | with_reducible exact H | (rw [hy265]; exact H) | exact H
                          have Ny265 := Aside0.mk hy265
                          clear hy265
                          replace H := Option.bind_eq_some_iff.mp H
                          obtain ⟨⟨t269, t270, t271⟩, A500, H⟩ := H
                          replace H : ((pressure_Worst.f k3 t232 t233 t234 (t235.drop (t239 : Int).toNat)).bind fun bt276 => (if t264 = 0 then (if t271 = 0 then (if bt276.2.2 = 0 then (if t262 = (mx t269 bt276.1) then ((headgatelaw32_awake.f k3).bind fun t279 => (some t279)) else (some false)) else (some false)) else (some false)) else (some false))) = some r := H
                          have A50 := Aside0.mk A500
                          clear A500
                          have c51b0 := eq_true (of_decide_eq_true (by first | (with_reducible assumption) | assumption) : 0 ≤ t239)
                          have c52b0 := eq_true (of_decide_eq_true (by first | (with_reducible assumption) | assumption) : t239 ≤ (t235.length : Int))
                          obtain ⟨y272, hy272⟩ : ∃ y_ : List Int, y_ = (t235.drop (t239 : Int).toNat) := ⟨_, rfl⟩
                          replace H : ((pressure_Worst.f k3 t232 t233 t234 y272).bind fun bt276 => (if t264 = 0 then (if t271 = 0 then (if bt276.2.2 = 0 then (if t262 = (mx t269 bt276.1) then ((headgatelaw32_awake.f k3).bind fun t279 => (some t279)) else (some false)) else (some false)) else (some false)) else (some false))) = some r := by first | (rw [hy272]; with_reducible exact H) | (have H2_ := (Option.bind_some _ _).symm.trans H; rw [hy272]; with_reducible exact H2_) | (have H2_ := (Option.bind_some _ _).symm.trans H; with_reducible exact H2_) | with_reducible exact H | (rw [hy272]; exact H) | exact H
                          have Ny272 := Aside0.mk hy272
                          clear hy272
                          replace H := Option.bind_eq_some_iff.mp H
                          obtain ⟨⟨t276, t277, t278⟩, A530, H⟩ := H
                          replace H : (if t264 = 0 then (if t271 = 0 then (if t278 = 0 then (if t262 = (mx t269 t276) then ((headgatelaw32_awake.f k3).bind fun t279 => (some t279)) else (some false)) else (some false)) else (some false)) else (some false)) = some r := H
                          have A53 := Aside0.mk A530
                          clear A530
                          by_cases c54 : t264 = 0
                          · rw [if_pos c54] at H
                            have c54b0 : (t264 == 0) = true := beq_iff_eq.mpr c54
                            have c54b1 : (t264 != 0) = false := bne_eq_false_iff_eq.mpr c54
                            clear c54
                            by_cases c55 : t271 = 0
                            · rw [if_pos c55] at H
                              have c55b0 : (t271 == 0) = true := beq_iff_eq.mpr c55
                              have c55b1 : (t271 != 0) = false := bne_eq_false_iff_eq.mpr c55
                              clear c55
                              by_cases c56 : t278 = 0
                              · rw [if_pos c56] at H
                                have c56b0 : (t278 == 0) = true := beq_iff_eq.mpr c56
                                have c56b1 : (t278 != 0) = false := bne_eq_false_iff_eq.mpr c56
                                clear c56
                                obtain ⟨ji57, hji57⟩ : ∃ j_ : Int, (mx t269 t276) = j_ := ⟨_, rfl⟩
                                replace H : (if t262 = (ji57) then ((headgatelaw32_awake.f k3).bind fun t279 => (some t279)) else (some false)) = some r := by first | (rw [hji57] at H; exact H) | (simp only [hji57] at H ⊢; exact H)
                                (try rw [hji57] at A47)
                                (try rw [hji57] at A50)
                                (try rw [hji57] at A53)
                                have hji57_ : (if t269 < t276 then t276 else t269) = ji57 := hji57
                                by_cases c58 : t262 = (ji57)
                                · rw [if_pos c58] at H
                                  have c58b0 : (t262 == (ji57)) = true := beq_iff_eq.mpr c58
                                  have c58b1 : (t262 != (ji57)) = false := bne_eq_false_iff_eq.mpr c58
                                  clear c58
                                  replace H := Option.bind_eq_some_iff.mp H
                                  obtain ⟨t279, A590, H⟩ := H
                                  replace H : (some t279) = some r := H
                                  have A59 := Aside0.mk A590
                                  clear A590
                                  obtain rfl := Option.some.inj H
                                  have hcz60_0 : wr.cell? ⟨gb238, 0, none⟩ = some (.int .i64 t232) := (blk_cell BK238.out 0).trans rfl
                                  have hcz60_1 : wr.cell? ⟨gb238, 1, none⟩ = some (.int .i64 t233) := (blk_cell BK238.out 1).trans rfl
                                  have hcz60_2 : wr.cell? ⟨gb238, 2, none⟩ = some (.int .i64 t234) := (blk_cell BK238.out 2).trans rfl
                                  have hfz60_0 := blk_frozen BK238.out 0
                                  have hfz60_1 := blk_frozen BK238.out 1
                                  have hfz60_2 := blk_frozen BK238.out 2
                                  try go_wp2_with (first | ((with_reducible refine gate_callee (f := 23) rfl ?_); refine goesL_ (some 109) rfl rfl Try.func23 (by kernel_rfl) rfl #[.agg #[.int .i64 t232, .int .i64 t233, .int .i64 t234], .slice Ao16 t235.length co16] rfl (by (try simp only [List.map_toArray, List.map_cons, List.map_nil]); first | done | rfl | (simp only [List.length_drop, List.length_take]; rfl)) ?_; (with_reducible refine (pressure_Worst.calls k3 t232 t233 t234 _ _ t235 t262 t263 t264 _ ?side1 ?side2 A47.out).mono ?_); (case side1 => repeat (first | exact (Kd.R_reads' HO_8.out).2.2 | (with_reducible refine Kd.C_alloc ?_ _) | (with_reducible refine Kd.C_drewN ?_ _) | (with_reducible refine Kd.C_drew ?_))); (case side2 => exact (Kd.R_reads' HO_8.out).2.1); rintro e w61 ⟨rfl, hb⟩; refine ⟨_, rfl, ?_⟩; have n0_ := Aside0.mk (Kd.R_below (by (with_reducible repeat (first | apply Kd.R_alloc | apply Kd.R_drewN | apply Kd.R_drew)); exact HO_8.out) hb); have n1_ := Aside0.mk (Kd.R_below (by (with_reducible repeat (first | apply Kd.R_alloc | apply Kd.R_drewN | apply Kd.R_drew)); exact HO_10.out) hb); have n2_ := Aside0.mk (blk_below (g := gb238) (o := .cells #[.int .i64 t232, .int .i64 t233, .int .i64 t234] 23 (0, 0)) (by (with_reducible repeat (first | refine blk_drewN ?_ _ | refine blk_drew ?_ | refine blk_alloc ?_ _)); exact BK238.out) hb); have n3_ := Aside0.mk (Kd.C_below (by repeat (first | (with_reducible exact HR247.out) | (with_reducible refine Kd.C_alloc ?_ _) | (with_reducible refine Kd.C_drewN ?_ _) | (with_reducible refine Kd.C_drew ?_) | exact HR247.out)) hb); have n4_ := Aside0.mk (below_step (by repeat (first | (with_reducible first | exact HB.out | apply below_alloc | apply pw_below_drewN | apply below_drew1 | refine below_set ?_ GE238.out) | exact HB.out)) hb); clear HO_8; clear HO_10; clear BK238; clear HR247; clear HB; have HO_8 := n0_; have HO_10 := n1_; have BK238 := n2_; have HR247 := n3_; have HB := n4_; clear n0_ n1_ n2_ n3_ n4_; (try clear hb); (try clear hb2); (try clear hk); (try clear hi)))
                                  have n0_ := Aside0.mk (Kd.R_drew HO_8.out)
                                  have n1_ := Aside0.mk (Kd.R_drew HO_10.out)
                                  have n2_ := Aside0.mk (blk_drew BK238.out)
                                  have n3_ := Aside0.mk (Kd.C_drew HR247.out)
                                  have n4_ := Aside0.mk (below_drew1 HB.out)
                                  clear HO_8
                                  clear HO_10
                                  clear BK238
                                  clear HR247
                                  clear HB
                                  have HO_8 := n0_
                                  have HO_10 := n1_
                                  have BK238 := n2_
                                  have HR247 := n3_
                                  have HB := n4_
                                  clear n0_ n1_ n2_ n3_ n4_
                                  have q63 : (t239 : Int) ≤ ((t235.length : Int) : Int) := of_decide_eq_true (by first | (with_reducible assumption) | assumption)
                                  obtain ⟨i063, hi063, _, hsz63, _⟩ := info_parts info3
                                  have hroom63 : t235.length ≤ co16 := (Kd.R_reads' HO_8.out).2.1
                                  have hC63 : Kd.C (Kd.int .i64) _ Ao16 t235.length t235 := (Kd.R_reads' HO_8.out).2.2
                                  have hcut63 := cut_to (P := Try.prog) 36 3 .i64 Try.underlying36 hi063 Ao16 t235.length co16 t239 (of_decide_eq_true (by first | (with_reducible assumption) | assumption)) q63 hroom63
                                  have hr63 := Kd.C_take (m := (t239 : Int).toNat) hC63 (by omega)
                                  have hy63 : y265.length = (t239 : Int).toNat := (by rw [Ny265.out, List.length_take]; omega)
                                  rw [← Ny265.out] at hr63
                                  rw [← hy63] at hcut63
                                  have HR268 := Aside0.mk hr63
                                  have HC268 := Aside0.mk (show y265.length ≤ co16 from by omega)
                                  clear hr63 hC63 hroom63 hi063 hsz63
                                  have KY63 := Aside0.mk hy63
                                  clear hy63
                                  have KL63 := Aside0.mk (show (t239 : Int).toNat ≤ t235.length from by omega)
                                  replace q63 := eq_true q63
                                  refine start_ (n := 12) (S := fun w' => w'.cell? ⟨gb238, 0, none⟩ = some (.int .i64 t232) ∧ w'.cell? ⟨gb238, 1, none⟩ = some (.int .i64 t233) ∧ w'.cell? ⟨gb238, 2, none⟩ = some (.int .i64 t234)) (ds := []) #[false, false, false, false, false, false, false, false, false, false, false, false] (by kernel_rfl) rfl rfl ⟨(blk_cell BK238.out 0).trans rfl, (blk_cell BK238.out 1).trans rfl, (blk_cell BK238.out 2).trans rfl⟩ (fun hHeld => ?_); refine with_tabW headgatelaw32_PressureParts.tab16 headgatelaw32_PressureParts.bits16 (fun HT_ HW_ => ?_)
                                  generalize w61.drew = w62 at HO_8 HO_10 BK238 HR247 HB HR268 hHeld ⊢
                                  refine pure_ (i := 1) (N := some 115) (v := ?_) (a' := ?_) #[false, true, false, false, false, false, false, false, false, false, false, false] rfl rfl (any_of HT_.out (by kernel_rfl)) (fun _ _ _ h => h) (Or.inl ⟨by rfl, ?_⟩) ?_ ?_
                                  rotate_left
                                  · intro w'
                                    go_simp
                                    with_reducible rfl
                                  rotate_left
                                  · simp only [Act.put, List.setIfInBounds_toArray, List.set_cons_zero, List.set_cons_succ, i64_w, i32_w]
                                    rfl
                                  refine pure_ (i := 2) (N := some 116) (v := ?_) (a' := ?_) #[false, true, true, false, false, false, false, false, false, false, false, false] rfl rfl (any_of HT_.out (by kernel_rfl)) (fun _ _ _ h => h) (Or.inl ⟨by rfl, ?_⟩) ?_ ?_
                                  rotate_left
                                  · intro w'
                                    go_simp
                                    with_reducible rfl
                                  rotate_left
                                  · simp only [Act.put, List.setIfInBounds_toArray, List.set_cons_zero, List.set_cons_succ, i64_w, i32_w]
                                    rfl
                                  refine pure_ (i := 3) (N := some 117) (v := ?_) (a' := ?_) #[false, true, true, true, false, false, false, false, false, false, false, false] rfl rfl (any_of HT_.out (by kernel_rfl)) (fun _ _ _ h => h) (Or.inl ⟨by rfl, ?_⟩) ?_ ?_
                                  rotate_left
                                  · intro w'
                                    go_simp
                                    with_reducible rfl
                                  rotate_left
                                  · simp only [Act.put, List.setIfInBounds_toArray, List.set_cons_zero, List.set_cons_succ, i64_w, i32_w]
                                    rfl
                                  refine take_ (i := 0) (N := some 114) (v := ?_) (a' := ?_) #[true, true, true, true, false, false, false, false, false, false, false, false] rfl rfl (take_ofW HT_.out HW_.out (by kernel_rfl)) (fun _ _ _ h => h) (Or.inl ⟨by rfl, ?_⟩) hHeld ?_ ?_
                                  rotate_left
                                  · rintro w' ⟨s0, s1, s2⟩
                                    go_simp
                                    with_reducible rfl
                                  rotate_left
                                  · simp only [Act.put, List.setIfInBounds_toArray, List.set_cons_zero, List.set_cons_succ, i64_w, i32_w]
                                    rfl
                                  refine one_ (i := 4) (N := some 118) #[true, true, true, true, true, false, false, false, false, false, false, false] rfl rfl (one_of HT_.out (by kernel_rfl)) (by decide) (fun K hK => ?_)
                                  refine goes_ Try.func23 (by kernel_rfl) rfl #[.agg #[.int .i64 t232, .int .i64 t233, .int .i64 t234], .slice Ao16 y265.length co16] (by rfl) rfl rfl (by (try simp only [List.map_toArray, List.map_cons, List.map_nil]); first | done | rfl | (rw [show y265.length = y244.length from KY63.out.trans KY19.out.symm]; rfl)) ?_
                                  with_reducible refine (pressure_Worst.calls k3 t232 t233 t234 _ _ y265 t269 t270 t271 _ ?side1 ?side2 A50.out).mono ?_
                                  (case side1 => repeat (first | exact (by repeat (first | (with_reducible exact HR268.out) | (with_reducible refine Kd.C_alloc ?_ _) | (with_reducible refine Kd.C_drewN ?_ _) | (with_reducible refine Kd.C_drew ?_) | exact HR268.out)) | (with_reducible refine Kd.C_alloc ?_ _) | (with_reducible refine Kd.C_drewN ?_ _) | (with_reducible refine Kd.C_drew ?_)))
                                  (case side2 => exact HC268.out)
                                  rintro e w64 ⟨rfl, hb⟩
                                  refine ⟨_, rfl, ?_⟩
                                  have n0_ := Aside0.mk (Kd.R_below (by (with_reducible repeat (first | apply Kd.R_alloc | apply Kd.R_drewN | apply Kd.R_drew)); exact HO_8.out) hb)
                                  have n1_ := Aside0.mk (Kd.R_below (by (with_reducible repeat (first | apply Kd.R_alloc | apply Kd.R_drewN | apply Kd.R_drew)); exact HO_10.out) hb)
                                  have n2_ := Aside0.mk (blk_below (g := gb238) (o := .cells #[.int .i64 t232, .int .i64 t233, .int .i64 t234] 23 (0, 0)) (by (with_reducible repeat (first | refine blk_drewN ?_ _ | refine blk_drew ?_ | refine blk_alloc ?_ _)); exact BK238.out) hb)
                                  have n3_ := Aside0.mk (Kd.C_below (by repeat (first | (with_reducible exact HR247.out) | (with_reducible refine Kd.C_alloc ?_ _) | (with_reducible refine Kd.C_drewN ?_ _) | (with_reducible refine Kd.C_drew ?_) | exact HR247.out)) hb)
                                  have n4_ := Aside0.mk (Kd.C_below (by repeat (first | (with_reducible exact HR268.out) | (with_reducible refine Kd.C_alloc ?_ _) | (with_reducible refine Kd.C_drewN ?_ _) | (with_reducible refine Kd.C_drew ?_) | exact HR268.out)) hb)
                                  have n5_ := Aside0.mk (below_step (by repeat (first | (with_reducible first | exact HB.out | apply below_alloc | apply pw_below_drewN | apply below_drew1 | refine below_set ?_ GE238.out) | exact HB.out)) hb)
                                  clear HO_8
                                  clear HO_10
                                  clear BK238
                                  clear HR247
                                  clear HR268
                                  clear HB
                                  have HO_8 := n0_
                                  have HO_10 := n1_
                                  have BK238 := n2_
                                  have HR247 := n3_
                                  have HR268 := n4_
                                  have HB := n5_
                                  clear n0_ n1_ n2_ n3_ n4_ n5_
                                  (try clear hb)
                                  (try clear hb2)
                                  (try clear hk)
                                  (try clear hi)
                                  refine hK.out _ _ ⟨(blk_cell BK238.out 0).trans rfl, (blk_cell BK238.out 1).trans rfl, (blk_cell BK238.out 2).trans rfl⟩ (fun hHeld => ?_)
                                  clear hK K
                                  refine norm_ (a' := ?_) ?_ ?_
                                  rotate_left
                                  · show Act.put _ (some 118) _ = _
                                    simp only [Act.put, List.setIfInBounds_toArray, List.set_cons_zero, List.set_cons_succ, i64_w, i32_w]
                                    rfl
                                  refine pure_ (i := 5) (N := some 113) (v := ?_) (a' := ?_) #[true, true, true, true, true, true, false, false, false, false, false, false] rfl rfl (any_of HT_.out (by kernel_rfl)) (fun _ _ _ h => h) (Or.inl ⟨by rfl, ?_⟩) ?_ ?_
                                  rotate_left
                                  · intro w'
                                    go_simp
                                    with_reducible rfl
                                  rotate_left
                                  · simp only [Act.put, List.setIfInBounds_toArray, List.set_cons_zero, List.set_cons_succ, i64_w, i32_w]
                                    rfl
                                  refine pure_ (i := 6) (N := some 119) (v := ?_) (a' := ?_) #[true, true, true, true, true, true, true, false, false, false, false, false] rfl rfl (any_of HT_.out (by kernel_rfl)) (fun _ _ _ h => h) (Or.inl ⟨by rfl, ?_⟩) ?_ ?_
                                  rotate_left
                                  · intro w'
                                    go_simp
                                    with_reducible rfl
                                  rotate_left
                                  · simp only [Act.put, List.setIfInBounds_toArray, List.set_cons_zero, List.set_cons_succ, i64_w, i32_w]
                                    rfl
                                  refine pure_ (i := 7) (N := some 120) (v := ?_) (a' := ?_) #[true, true, true, true, true, true, true, true, false, false, false, false] rfl rfl (any_of HT_.out (by kernel_rfl)) (fun _ _ _ h => h) (Or.inl ⟨by rfl, ?_⟩) ?_ ?_
                                  rotate_left
                                  · intro w'
                                    go_simp
                                    with_reducible rfl
                                  rotate_left
                                  · simp only [Act.put, List.setIfInBounds_toArray, List.set_cons_zero, List.set_cons_succ, i64_w, i32_w]
                                    rfl
                                  refine pure_ (i := 8) (N := some 121) (v := ?_) (a' := ?_) #[true, true, true, true, true, true, true, true, true, false, false, false] rfl rfl (any_of HT_.out (by kernel_rfl)) (fun _ _ _ h => h) (Or.inl ⟨by rfl, ?_⟩) ?_ ?_
                                  rotate_left
                                  · intro w'
                                    go_simp
                                    with_reducible rfl
                                  rotate_left
                                  · simp only [Act.put, List.setIfInBounds_toArray, List.set_cons_zero, List.set_cons_succ, i64_w, i32_w]
                                    rfl
                                  refine pure_ (i := 9) (N := some 20) (v := ?_) (a' := ?_) #[true, true, true, true, true, true, true, true, true, true, false, false] rfl rfl (any_of HT_.out (by kernel_rfl)) (fun _ _ _ h => h) (Or.inl ⟨by rfl, ?_⟩) ?_ ?_
                                  rotate_left
                                  · intro w'
                                    go_simp
                                    with_reducible rfl
                                  rotate_left
                                  · simp only [Act.put, List.setIfInBounds_toArray, List.set_cons_zero, List.set_cons_succ, i64_w, i32_w]
                                    rfl
                                  refine pure_ (i := 10) (N := some 21) (v := ?_) (a' := ?_) #[true, true, true, true, true, true, true, true, true, true, true, false] rfl rfl (any_of HT_.out (by kernel_rfl)) (fun _ _ _ h => h) (Or.inl ⟨by rfl, ?_⟩) ?_ ?_
                                  rotate_left
                                  · intro w'
                                    go_simp
                                    with_reducible rfl
                                  rotate_left
                                  · simp only [Act.put, List.setIfInBounds_toArray, List.set_cons_zero, List.set_cons_succ, i64_w, i32_w]
                                    rfl
                                  refine pure_ (i := 11) (N := some 13) (v := ?_) (a' := ?_) #[true, true, true, true, true, true, true, true, true, true, true, true] rfl rfl (any_of HT_.out (by kernel_rfl)) (fun _ _ _ h => h) (Or.inl ⟨by rfl, ?_⟩) ?_ ?_
                                  rotate_left
                                  · intro w'
                                    go_simp
                                    with_reducible rfl
                                  rotate_left
                                  · simp only [Act.put, List.setIfInBounds_toArray, List.set_cons_zero, List.set_cons_succ, i64_w, i32_w]
                                    rfl
                                  refine done_ (done_of HT_.out (by kernel_rfl)) ?_
                                  try go_wp2
                                  have n0_ := Aside0.mk (Kd.R_drew HO_8.out)
                                  have n1_ := Aside0.mk (Kd.R_drew HO_10.out)
                                  have n2_ := Aside0.mk (blk_drew BK238.out)
                                  have n3_ := Aside0.mk (Kd.C_drew HR247.out)
                                  have n4_ := Aside0.mk (Kd.C_drew HR268.out)
                                  have n5_ := Aside0.mk (below_drew1 HB.out)
                                  clear HO_8
                                  clear HO_10
                                  clear BK238
                                  clear HR247
                                  clear HR268
                                  clear HB
                                  have HO_8 := n0_
                                  have HO_10 := n1_
                                  have BK238 := n2_
                                  have HR247 := n3_
                                  have HR268 := n4_
                                  have HB := n5_
                                  clear n0_ n1_ n2_ n3_ n4_ n5_
                                  have q66 : (t239 : Int) ≤ ((t235.length : Int) : Int) := of_decide_eq_true (by first | (with_reducible assumption) | assumption)
                                  obtain ⟨i066, hi066, _, hsz66, _⟩ := info_parts info3
                                  have hroom66 : t235.length ≤ co16 := (Kd.R_reads' HO_8.out).2.1
                                  have hC66 : Kd.C (Kd.int .i64) _ Ao16 t235.length t235 := (Kd.R_reads' HO_8.out).2.2
                                  have q066 : (0 : Int) ≤ (t239 : Int) := of_decide_eq_true (by first | (with_reducible assumption) | assumption)
                                  have hcut66 := cut_from (P := Try.prog) 36 3 .i64 Try.underlying36 hi066 1 hsz66 Ao16 t235.length co16 t239 q066 q66
                                  have hr66 := Kd.C_drop (m := (t239 : Int).toNat) (c := co16) hC66 (by omega) hroom66
                                  obtain ⟨A66, hA66⟩ : ∃ A1, A1 = (if co16 = (t239 : Int).toNat then Ao16 else (Ao16 : Option Addr).map (·.add ((t239 : Int).toNat * 1))) := ⟨_, rfl⟩
                                  obtain ⟨c66, hc66⟩ : ∃ c1, c1 = co16 - (t239 : Int).toNat := ⟨_, rfl⟩
                                  have hy66 : y272.length = t235.length - (t239 : Int).toNat := (by rw [Ny272.out, List.length_drop] <;> omega)
                                  rw [show (t235).drop (t239 : Int).toNat = y272 from Ny272.out.symm] at hr66
                                  replace hr66 : Kd.C (Kd.int .i64) _ A66 y272.length y272 := (by rw [hA66]; exact hr66)
                                  rw [← hy66, ← hA66, ← hc66] at hcut66
                                  have HR275 := Aside0.mk hr66
                                  have HC275 := Aside0.mk (show y272.length ≤ c66 from by rw [hy66, hc66]; exact Nat.sub_le_sub_right hroom66 _)
                                  clear hr66 hC66 hroom66 hi066 hsz66 hc66
                                  have KY66 := Aside0.mk hy66
                                  have KA66 := Aside0.mk hA66
                                  clear hy66 hA66
                                  have KL66 := Aside0.mk (show (t239 : Int).toNat ≤ t235.length from by omega)
                                  replace q66 := eq_true q66
                                  refine start_ (n := 12) (S := fun w' => w'.cell? ⟨gb238, 0, none⟩ = some (.int .i64 t232) ∧ w'.cell? ⟨gb238, 1, none⟩ = some (.int .i64 t233) ∧ w'.cell? ⟨gb238, 2, none⟩ = some (.int .i64 t234)) (ds := []) #[false, false, false, false, false, false, false, false, false, false, false, false] (by kernel_rfl) rfl rfl ⟨(blk_cell BK238.out 0).trans rfl, (blk_cell BK238.out 1).trans rfl, (blk_cell BK238.out 2).trans rfl⟩ (fun hHeld => ?_); refine with_tabW headgatelaw32_PressureParts.tab17 headgatelaw32_PressureParts.bits17 (fun HT_ HW_ => ?_)
                                  generalize w64.drew = w65 at HO_8 HO_10 BK238 HR247 HR268 HB HR275 hHeld ⊢
                                  refine pure_ (i := 1) (N := some 124) (v := ?_) (a' := ?_) #[false, true, false, false, false, false, false, false, false, false, false, false] rfl rfl (any_of HT_.out (by kernel_rfl)) (fun _ _ _ h => h) (Or.inl ⟨by rfl, ?_⟩) ?_ ?_
                                  rotate_left
                                  · intro w'
                                    go_simp
                                    with_reducible rfl
                                  rotate_left
                                  · simp only [Act.put, List.setIfInBounds_toArray, List.set_cons_zero, List.set_cons_succ, i64_w, i32_w]
                                    rfl
                                  refine pure_ (i := 2) (N := some 125) (v := ?_) (a' := ?_) #[false, true, true, false, false, false, false, false, false, false, false, false] rfl rfl (any_of HT_.out (by kernel_rfl)) (fun _ _ _ h => h) (Or.inl ⟨by rfl, ?_⟩) ?_ ?_
                                  rotate_left
                                  · intro w'
                                    go_simp
                                    with_reducible rfl
                                  rotate_left
                                  · simp only [Act.put, List.setIfInBounds_toArray, List.set_cons_zero, List.set_cons_succ, i64_w, i32_w]
                                    rfl
                                  refine pure_ (i := 3) (N := some 126) (v := ?_) (a' := ?_) #[false, true, true, true, false, false, false, false, false, false, false, false] rfl rfl (any_of HT_.out (by kernel_rfl)) (fun _ _ _ h => h) (Or.inl ⟨by rfl, ?_⟩) ?_ ?_
                                  rotate_left
                                  · intro w'
                                    go_simp
                                    with_reducible rfl
                                  rotate_left
                                  · simp only [Act.put, List.setIfInBounds_toArray, List.set_cons_zero, List.set_cons_succ, i64_w, i32_w]
                                    rfl
                                  refine take_ (i := 0) (N := some 123) (v := ?_) (a' := ?_) #[true, true, true, true, false, false, false, false, false, false, false, false] rfl rfl (take_ofW HT_.out HW_.out (by kernel_rfl)) (fun _ _ _ h => h) (Or.inl ⟨by rfl, ?_⟩) hHeld ?_ ?_
                                  rotate_left
                                  · rintro w' ⟨s0, s1, s2⟩
                                    go_simp
                                    with_reducible rfl
                                  rotate_left
                                  · simp only [Act.put, List.setIfInBounds_toArray, List.set_cons_zero, List.set_cons_succ, i64_w, i32_w]
                                    rfl
                                  refine one_ (i := 4) (N := some 127) #[true, true, true, true, true, false, false, false, false, false, false, false] rfl rfl (one_of HT_.out (by kernel_rfl)) (by decide) (fun K hK => ?_)
                                  refine goes_ Try.func23 (by kernel_rfl) rfl #[.agg #[.int .i64 t232, .int .i64 t233, .int .i64 t234], .slice A66 y272.length c66] (by rfl) rfl rfl (by (try simp only [List.map_toArray, List.map_cons, List.map_nil]); first | done | rfl | (simp only [List.length_drop, List.length_take]; rfl)) ?_
                                  with_reducible refine (pressure_Worst.calls k3 t232 t233 t234 _ _ y272 t276 t277 t278 _ ?side1 ?side2 A53.out).mono ?_
                                  (case side1 => repeat (first | exact (by repeat (first | (with_reducible exact HR275.out) | (with_reducible refine Kd.C_alloc ?_ _) | (with_reducible refine Kd.C_drewN ?_ _) | (with_reducible refine Kd.C_drew ?_) | exact HR275.out)) | (with_reducible refine Kd.C_alloc ?_ _) | (with_reducible refine Kd.C_drewN ?_ _) | (with_reducible refine Kd.C_drew ?_)))
                                  (case side2 => exact HC275.out)
                                  rintro e w67 ⟨rfl, hb⟩
                                  refine ⟨_, rfl, ?_⟩
                                  have n0_ := Aside0.mk (Kd.R_below (by (with_reducible repeat (first | apply Kd.R_alloc | apply Kd.R_drewN | apply Kd.R_drew)); exact HO_8.out) hb)
                                  have n1_ := Aside0.mk (Kd.R_below (by (with_reducible repeat (first | apply Kd.R_alloc | apply Kd.R_drewN | apply Kd.R_drew)); exact HO_10.out) hb)
                                  have n2_ := Aside0.mk (blk_below (g := gb238) (o := .cells #[.int .i64 t232, .int .i64 t233, .int .i64 t234] 23 (0, 0)) (by (with_reducible repeat (first | refine blk_drewN ?_ _ | refine blk_drew ?_ | refine blk_alloc ?_ _)); exact BK238.out) hb)
                                  have n3_ := Aside0.mk (Kd.C_below (by repeat (first | (with_reducible exact HR247.out) | (with_reducible refine Kd.C_alloc ?_ _) | (with_reducible refine Kd.C_drewN ?_ _) | (with_reducible refine Kd.C_drew ?_) | exact HR247.out)) hb)
                                  have n4_ := Aside0.mk (Kd.C_below (by repeat (first | (with_reducible exact HR268.out) | (with_reducible refine Kd.C_alloc ?_ _) | (with_reducible refine Kd.C_drewN ?_ _) | (with_reducible refine Kd.C_drew ?_) | exact HR268.out)) hb)
                                  have n5_ := Aside0.mk (Kd.C_below (by repeat (first | (with_reducible exact HR275.out) | (with_reducible refine Kd.C_alloc ?_ _) | (with_reducible refine Kd.C_drewN ?_ _) | (with_reducible refine Kd.C_drew ?_) | exact HR275.out)) hb)
                                  have n6_ := Aside0.mk (below_step (by repeat (first | (with_reducible first | exact HB.out | apply below_alloc | apply pw_below_drewN | apply below_drew1 | refine below_set ?_ GE238.out) | exact HB.out)) hb)
                                  clear HO_8
                                  clear HO_10
                                  clear BK238
                                  clear HR247
                                  clear HR268
                                  clear HR275
                                  clear HB
                                  have HO_8 := n0_
                                  have HO_10 := n1_
                                  have BK238 := n2_
                                  have HR247 := n3_
                                  have HR268 := n4_
                                  have HR275 := n5_
                                  have HB := n6_
                                  clear n0_ n1_ n2_ n3_ n4_ n5_ n6_
                                  (try clear hb)
                                  (try clear hb2)
                                  (try clear hk)
                                  (try clear hi)
                                  refine hK.out _ _ ⟨(blk_cell BK238.out 0).trans rfl, (blk_cell BK238.out 1).trans rfl, (blk_cell BK238.out 2).trans rfl⟩ (fun hHeld => ?_)
                                  clear hK K
                                  refine norm_ (a' := ?_) ?_ ?_
                                  rotate_left
                                  · show Act.put _ (some 127) _ = _
                                    simp only [Act.put, List.setIfInBounds_toArray, List.set_cons_zero, List.set_cons_succ, i64_w, i32_w]
                                    rfl
                                  refine pure_ (i := 5) (N := some 122) (v := ?_) (a' := ?_) #[true, true, true, true, true, true, false, false, false, false, false, false] rfl rfl (any_of HT_.out (by kernel_rfl)) (fun _ _ _ h => h) (Or.inl ⟨by rfl, ?_⟩) ?_ ?_
                                  rotate_left
                                  · intro w'
                                    go_simp
                                    with_reducible rfl
                                  rotate_left
                                  · simp only [Act.put, List.setIfInBounds_toArray, List.set_cons_zero, List.set_cons_succ, i64_w, i32_w]
                                    rfl
                                  refine pure_ (i := 6) (N := some 128) (v := ?_) (a' := ?_) #[true, true, true, true, true, true, true, false, false, false, false, false] rfl rfl (any_of HT_.out (by kernel_rfl)) (fun _ _ _ h => h) (Or.inl ⟨by rfl, ?_⟩) ?_ ?_
                                  rotate_left
                                  · intro w'
                                    go_simp
                                    with_reducible rfl
                                  rotate_left
                                  · simp only [Act.put, List.setIfInBounds_toArray, List.set_cons_zero, List.set_cons_succ, i64_w, i32_w]
                                    rfl
                                  refine pure_ (i := 7) (N := some 129) (v := ?_) (a' := ?_) #[true, true, true, true, true, true, true, true, false, false, false, false] rfl rfl (any_of HT_.out (by kernel_rfl)) (fun _ _ _ h => h) (Or.inl ⟨by rfl, ?_⟩) ?_ ?_
                                  rotate_left
                                  · intro w'
                                    go_simp
                                    with_reducible rfl
                                  rotate_left
                                  · simp only [Act.put, List.setIfInBounds_toArray, List.set_cons_zero, List.set_cons_succ, i64_w, i32_w]
                                    rfl
                                  refine pure_ (i := 8) (N := some 130) (v := ?_) (a' := ?_) #[true, true, true, true, true, true, true, true, true, false, false, false] rfl rfl (any_of HT_.out (by kernel_rfl)) (fun _ _ _ h => h) (Or.inl ⟨by rfl, ?_⟩) ?_ ?_
                                  rotate_left
                                  · intro w'
                                    go_simp
                                    with_reducible rfl
                                  rotate_left
                                  · simp only [Act.put, List.setIfInBounds_toArray, List.set_cons_zero, List.set_cons_succ, i64_w, i32_w]
                                    rfl
                                  refine pure_ (i := 9) (N := some 22) (v := ?_) (a' := ?_) #[true, true, true, true, true, true, true, true, true, true, false, false] rfl rfl (any_of HT_.out (by kernel_rfl)) (fun _ _ _ h => h) (Or.inl ⟨by rfl, ?_⟩) ?_ ?_
                                  rotate_left
                                  · intro w'
                                    go_simp
                                    with_reducible rfl
                                  rotate_left
                                  · simp only [Act.put, List.setIfInBounds_toArray, List.set_cons_zero, List.set_cons_succ, i64_w, i32_w]
                                    rfl
                                  refine pure_ (i := 10) (N := some 23) (v := ?_) (a' := ?_) #[true, true, true, true, true, true, true, true, true, true, true, false] rfl rfl (any_of HT_.out (by kernel_rfl)) (fun _ _ _ h => h) (Or.inl ⟨by rfl, ?_⟩) ?_ ?_
                                  rotate_left
                                  · intro w'
                                    go_simp
                                    with_reducible rfl
                                  rotate_left
                                  · simp only [Act.put, List.setIfInBounds_toArray, List.set_cons_zero, List.set_cons_succ, i64_w, i32_w]
                                    rfl
                                  refine pure_ (i := 11) (N := some 24) (v := ?_) (a' := ?_) #[true, true, true, true, true, true, true, true, true, true, true, true] rfl rfl (any_of HT_.out (by kernel_rfl)) (fun _ _ _ h => h) (Or.inl ⟨by rfl, ?_⟩) ?_ ?_
                                  rotate_left
                                  · intro w'
                                    go_simp
                                    with_reducible rfl
                                  rotate_left
                                  · simp only [Act.put, List.setIfInBounds_toArray, List.set_cons_zero, List.set_cons_succ, i64_w, i32_w]
                                    rfl
                                  refine done_ (done_of HT_.out (by kernel_rfl)) ?_
                                  try go_wp2_with (first | (go_at_call 17; (with_reducible refine (headgatelaw32_awake.calls k3  t279 _ A59.out).mono ?_); rintro e w68 ⟨rfl, hb⟩; have n0_ := Aside0.mk (Kd.R_below (by (with_reducible repeat (first | apply Kd.R_alloc | apply Kd.R_drewN | apply Kd.R_drew)); exact HO_8.out) hb); have n1_ := Aside0.mk (Kd.R_below (by (with_reducible repeat (first | apply Kd.R_alloc | apply Kd.R_drewN | apply Kd.R_drew)); exact HO_10.out) hb); have n2_ := Aside0.mk (blk_below (g := gb238) (o := .cells #[.int .i64 t232, .int .i64 t233, .int .i64 t234] 23 (0, 0)) (by (with_reducible repeat (first | refine blk_drewN ?_ _ | refine blk_drew ?_ | refine blk_alloc ?_ _)); exact BK238.out) hb); have n3_ := Aside0.mk (Kd.C_below (by repeat (first | (with_reducible exact HR247.out) | (with_reducible refine Kd.C_alloc ?_ _) | (with_reducible refine Kd.C_drewN ?_ _) | (with_reducible refine Kd.C_drew ?_) | exact HR247.out)) hb); have n4_ := Aside0.mk (Kd.C_below (by repeat (first | (with_reducible exact HR268.out) | (with_reducible refine Kd.C_alloc ?_ _) | (with_reducible refine Kd.C_drewN ?_ _) | (with_reducible refine Kd.C_drew ?_) | exact HR268.out)) hb); have n5_ := Aside0.mk (Kd.C_below (by repeat (first | (with_reducible exact HR275.out) | (with_reducible refine Kd.C_alloc ?_ _) | (with_reducible refine Kd.C_drewN ?_ _) | (with_reducible refine Kd.C_drew ?_) | exact HR275.out)) hb); have n6_ := Aside0.mk (below_step (by repeat (first | (with_reducible first | exact HB.out | apply below_alloc | apply pw_below_drewN | apply below_drew1 | refine below_set ?_ GE238.out) | exact HB.out)) hb); clear HO_8; clear HO_10; clear BK238; clear HR247; clear HR268; clear HR275; clear HB; have HO_8 := n0_; have HO_10 := n1_; have BK238 := n2_; have HR247 := n3_; have HR268 := n4_; have HR275 := n5_; have HB := n6_; clear n0_ n1_ n2_ n3_ n4_ n5_ n6_; (try clear hb); (try clear hb2); (try clear hk); (try clear hi)))
                                  go_ret
                                  exact ⟨by first | rfl | (simp [errW_none, errW_some] <;> rfl) | (simp only [← hji57]; first | rfl | (simp [errW_none, errW_some] <;> rfl)) | (simp [*, errW_none, errW_some] <;> rfl), by repeat (first | (with_reducible first | exact HB.out | apply below_alloc | apply pw_below_drewN | apply below_drew1 | refine below_set ?_ GE238.out) | exact HB.out)⟩
                                · rw [if_neg c58] at H
                                  have c58b0 : (t262 == (ji57)) = false := beq_eq_false_iff_ne.mpr c58
                                  have c58b1 : (t262 != (ji57)) = true := bne_iff_ne.mpr c58
                                  exact absurd ((Option.some.inj H).trans hT.out) (by decide)
                              · rw [if_neg c56] at H
                                have c56b0 : (t278 == 0) = false := beq_eq_false_iff_ne.mpr c56
                                have c56b1 : (t278 != 0) = true := bne_iff_ne.mpr c56
                                exact absurd ((Option.some.inj H).trans hT.out) (by decide)
                            · rw [if_neg c55] at H
                              have c55b0 : (t271 == 0) = false := beq_eq_false_iff_ne.mpr c55
                              have c55b1 : (t271 != 0) = true := bne_iff_ne.mpr c55
                              exact absurd ((Option.some.inj H).trans hT.out) (by decide)
                          · rw [if_neg c54] at H
                            have c54b0 : (t264 == 0) = false := beq_eq_false_iff_ne.mpr c54
                            have c54b1 : (t264 != 0) = true := bne_iff_ne.mpr c54
                            exact absurd ((Option.some.inj H).trans hT.out) (by decide)
                        · rw [if_neg c49] at H
                          exact absurd H (by simp)
                      · rw [if_neg c48] at H
                        exact absurd H (by simp)
    · rw [if_neg c9] at H
      exact absurd H (by simp)
  · rw [if_neg c8] at H
    exact absurd H (by simp)

/-- THE ONE PURE STATEMENT of headgatelaw32_PressureParts: yours. -/
def headgatelaw32_PressureParts.Pure : Prop := ∀ (a0 : Int) (l1 : List Int) (a2 : Int), (Lit.int .i64 a0).wf = true → l1.length ≤ maxLen → l1.length * 8 ≤ 140737488351232 → (∀ x ∈ l1, (Lit.int .i64 x).wf = true) → (Lit.int .i64 a2).wf = true → ∃ k, headgatelaw32_PressureParts.f k a0 l1 a2 = some true
theorem headgatelaw32_PressureParts.walk (P : headgatelaw32_PressureParts.Pure) (a0 : Int) (a1 : Option Addr) (len1 cap1 : Nat) (z1 : List Int) (a2 : Int) (w : World) (w0 : (Lit.int .i64 a0).wf = true) (w1 : (a1 = none ∧ len1 = 0 ∧ cap1 = 0 ∧ z1 = []) ∨ ∃ x, a1 = some x ∧ len1 ≤ cap1 ∧ cap1 ≤ maxLen ∧ z1.length = cap1 ∧ (∀ i, i < z1.length → w.cell? (x.add i) = some (.int .i64 (z1.getD i 0))) ∧ ∀ n ∈ z1, (Lit.int .i64 n).wf = true) (y1 : len1 * 8 ≤ 140737488351232) (w2 : (Lit.int .i64 a2).wf = true) :
    Calls Try.prog 5 #[.int .i64 a0, .slice a1 len1 cap1, .int .i64 a2] w fun e w' => e = .returned (.bool true) ∧ Below w.heap.size w w' := by
  obtain ⟨l1, rfl, hr1, hm1, hw1, hc1⟩ := ReadsInt.ofRowC w1
  obtain ⟨k, h⟩ := P a0 l1 a2 w0 hm1 y1 hw1 w2
  refine (headgatelaw32_PressureParts.calls k a0 _ _ l1 a2 true w (Kd.C_of_reads (d := (0 : Int)) (h1 := fun _ => rfl) hr1) hc1 h ⟨rfl⟩).mono ?_
  rintro e w' ⟨rfl, hd⟩
  exact ⟨rfl, hd⟩

end Go.Proofs.Ytfjfmhkifaiakaa.PA
