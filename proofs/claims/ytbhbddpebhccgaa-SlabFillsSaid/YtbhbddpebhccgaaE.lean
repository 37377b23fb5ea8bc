import Derived.Test.YtbhbddpebhccgaaD
import Derived.OpenShut
namespace Go.Proofs.Ytbhbddpebhccgaa
open Go.RowKit

theorem ka {w : World} {a : Addr} {v : Value} (h : w.cell? a = some v) (o : Obj) : (w.alloc o).cell? a = some v := kc ((Below.refl _ _).alloc (Nat.le_refl _) o) h
theorem fa {w : World} {a : Addr} {v : Value} (h : w.cell? a = some v) (hf : w.frozen? a = false) (o : Obj) : (w.alloc o).frozen? a = false := kf ((Below.refl _ _).alloc (Nat.le_refl _) o) h hf

theorem so1 {w : World} {a : Addr} {u v : Value} (h : w.cell? a = some v) : (w.setCell a u).cell? a = some u := World.cell?_setCell_same _ _ _ h
theorem so {w : World} {a b : Addr} {u v : Value} (h : w.cell? a = some v) (hn : a ≠ b) : (w.setCell b u).cell? a = some v := by rw [World.cell?_setCell_other w b a u (fun e => hn e.symm)]; exact h

def U (k : Nat) : Int := 2 ^ k - 1
theorem fill8 : ∀ k : Fin 8, U k.val ≠ 255 ∧ 0 ≤ U k.val ∧ U k.val ≤ 255 ∧ tz (U k.val) = k.val ∧ au (U k.val) = U (k.val + 1) := by decide +kernel
theorem fill_step (f : Int) (h0 : 0 ≤ f) (h1 : f < 256) (k : Nat) (hk : k < 8) :
    aF f (U k) = f ∧ aU f (U k) = U (k + 1) ∧ aO f (U k) = 8 * f + k ∧ aE f (U k) = 0 ∧ 0 ≤ U k ∧ U k ≤ 255 := by
  obtain ⟨a, b, c, d, e⟩ := fill8 ⟨k, hk⟩
  simp only at a b c d e
  have hb : ¬ badF f := by unfold badF; omega
  obtain ⟨e1, e2, e3, e4⟩ := a_ok hb a
  exact ⟨e1, by rw [e2, e], by rw [e3, d], e4, b, c⟩

set_option maxHeartbeats 400000 in
theorem fills_walk (a : Int) (wa : (Lit.int .i64 a).wf = true) (w : World) :
    Calls Try.prog 4 #[.int .i64 a] w fun e w' => e = .returned (.bool true) ∧ Below w.heap.size w w' := by
  have hw := bounds_i64 wa
  obtain ⟨f, hf⟩ : ∃ f, f = a % 256 := ⟨_, rfl⟩
  have h0 : 0 ≤ f := by omega
  have h1 : f < 256 := by omega
  have HF := hid hf
  clear hf
  go_enter Try.func4, Try.ntmps4
  go_wp2_with fail
  refine (mod_any _ _ hw.1 hw.2 (by omega) (by omega) _).mono ?_
  rintro e w' ⟨rfl, rfl⟩
  rw [← HF.out]
  go_wp2_with fail
  go_loopw [4] (fun i wr => ∃ k : Nat, k ≤ 8 ∧ i = .int .i64 k ∧ wr.cell? ⟨w.heap.size, 0, none⟩ = some (.int .i64 f) ∧ wr.cell? ⟨w.heap.size, 1, none⟩ = some (.int .u8 (U k)) ∧
      wr.frozen? ⟨w.heap.size, 0, none⟩ = false ∧ wr.frozen? ⟨w.heap.size, 1, none⟩ = false ∧ Below w.heap.size w wr) (fun i _ => 8 - (intOf i).toNat)
  case atStart => exact ⟨0, by omega, rfl, by simp, by simp [U], by simp, by simp, (Below.refl _ _).alloc (Nat.le_refl _) _⟩
  case round =>
    obtain ⟨k, hk, rfl, c0, c1, f0, f1, hb⟩ := hrel
    by_cases hlt : k < 8
    · obtain ⟨e1, e2, e3, e4, e5, e6⟩ := fill_step f h0 h1 k hlt
      have E1 := hid e1
      have E2 := hid e2
      have E3 := hid e3
      have E4 := hid e4
      clear e1 e2 e3 e4
      go_wp2_with fail
      refine (alloc_any _ _ e5 e6 _).mono ?_
      rintro e w1 ⟨rfl, hb1⟩
      rw [E1.out, E2.out, E3.out, E4.out]
      have c0' := kc hb1 c0
      have c1' := kc hb1 c1
      have f0' := kf hb1 c0 f0
      have f1' := kf hb1 c1 f1
      have hb' := bt hb hb1
      have c0a := ka c0'
      have c1a := ka c1'
      have f0a := fa c0' f0'
      have f1a := fa c1' f1'
      clear c0 c1 f0 f1 hb hb1
      go_wp2_with fail
      refine (split_ok _ (by omega) (by omega) _).mono ?_
      rintro e w' ⟨rfl, rfl⟩
      rw [show (8 * f + (k : Int)) / 8 = f from by omega, show (8 * f + (k : Int)) % 8 = k from by omega]
      go_wp2_with fail
      refine ⟨⟨k + 1, by omega, by go_num, so (so1 (c0a _)) (by simp), so1 (so (c1a _) (by simp)), by simp [f0a], by simp [f1a], ?_⟩, by simp [intOf]; omega⟩
      exact ((hb'.alloc hb'.size _).setCell (Nat.le_refl _) _).setCell (Nat.le_refl _) _
    · obtain rfl : k = 8 := by omega
      go_wp2_with fail
      refine (state_ok _ _ h0 h1 _ _).mono ?_
      rintro e w1 ⟨rfl, hb1⟩
      rw [show (ofS (U 8) == 3) = true from by decide +kernel]
      go_wp2_with fail
      refine (awake_any _).mono ?_
      rintro e w2 ⟨rfl, hb2⟩
      go_wp2_with fail
      go_ret
      exact ⟨rfl, bt (bt hb hb1) hb2⟩
end Go.Proofs.Ytbhbddpebhccgaa
