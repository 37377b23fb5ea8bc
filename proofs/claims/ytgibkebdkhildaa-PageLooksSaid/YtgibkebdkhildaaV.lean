/- page.Text (30): the walk. -/
import Derived.Test.YtgibkebdkhildaaT
import Derived.Laws.BytesArg
namespace Go.Proofs.Ytgibkebdkhildaa
open Go.RowKit
set_option linter.unusedVariables false
set_option linter.unusedSimpArgs false

/-- a list of bytes that the call has made itself -/
def OwnB (w : World) (base : Nat) (v : Value) (xs : List Int) : Prop := w.ownsRow base 5 1 v xs.length (xs.map (Value.int .u8))
theorem OwnB.nil (w : World) (base : Nat) : OwnB w base (.slice none 0 0) [] := World.ownsRow_nil _ _ _ _
theorem OwnB.of {w : World} {base : Nat} {v : Value} {xs : List Int} {x : Int} (h : w.ownsRow base 5 1 v (xs.length + 1) (xs.map (Value.int .u8) ++ [.int .u8 x])) : OwnB w base v (xs ++ [x]) := by
  unfold OwnB
  simpa using h
theorem OwnB.block {w : World} {base : Nat} {v : Value} {xs : List Int} (h : OwnB w base v xs) : ∀ k, v.ownBlock = some k → base ≤ k := by
  intro k hk
  rcases h.2 with ⟨rfl, _⟩ | ⟨g, cap, cur, rfl, hb, _⟩
  · cases hk
  · cases hk; exact hb
theorem OwnB.reads {w : World} {base : Nat} {v : Value} {xs : List Int} (h : OwnB w base v xs) (hn : 0 < xs.length) : ∃ g c, v = .slice (some ⟨g, 0, none⟩) xs.length c ∧ ∀ i, i < xs.length → w.cell? ⟨g, 0 + i, none⟩ = some (.int .u8 (xs.getD i 0)) := by
  obtain ⟨g, cap, hv, _, _⟩ := World.ownsRow.form h (by omega)
  refine ⟨g, cap, hv, fun i hi => ?_⟩
  unfold OwnB at h
  rw [hv] at h
  have := World.ownsRow.cellAt h i (by omega)
  rw [Nat.zero_add, this]
  simp [List.getD, List.getElem?_eq_getElem hi]
theorem info5 : (Try.prog.info? 5).map (fun i => (i.zero, i.size, i.bytes)) = some (some (.int .u8 0), 1, 1) := by kernel_rfl

def hexB (d : Int) : Int := if d < 10 then 48 + d else 87 + d
def dgs (x : Int) (j : Nat) : List Int := (List.range j).map fun q => hexB (x / 2 ^ (60 - 4 * q) % 16)
theorem dgs_succ (x : Int) (j : Nat) : dgs x (j + 1) = dgs x j ++ [hexB (x / 2 ^ (60 - 4 * j) % 16)] := by simp [dgs, List.range_succ]
theorem dgs_len (x : Int) (j : Nat) : (dgs x j).length = j := by simp [dgs]
def sep (n : Nat) : List Int := if n = 0 then [] else [32]
def txp (C : List Int) : Nat → List Int
  | 0 => []
  | n + 1 => txp C n ++ sep n ++ dgs (C.getD n 0) 16
theorem txp_len (C : List Int) : ∀ n, (txp C n).length = 17 * n - (if n = 0 then 0 else 1) := by
  intro n
  induction n with
  | zero => rfl
  | succ n ih =>
    show (txp C n ++ sep n ++ dgs (C.getD n 0) 16).length = _
    rw [List.length_append, List.length_append, ih, dgs_len]
    unfold sep
    by_cases h : n = 0
    · subst h; rfl
    · rw [if_neg h, if_neg h, if_neg (by omega)]
      simp
      omega
def txF (C : List Int) : List Int := txp C 8
theorem and15 (x : Int) (x0 : 0 ≤ x) (x1 : x ≤ 18446744073709551615) : bits .and .u64 x 15 = x % 16 := by
  obtain ⟨n, rfl⟩ := Int.eq_ofNat_of_zero_le x0
  have e : ((n : Int) % 16) = ((n % 2 ^ 4 : Nat) : Int) := by omega
  rw [e, ← Nat.and_two_pow_sub_one_eq_mod n 4]
  exact bits_and_u64_nat n 15 (by omega) (by omega)

theorem hex_at (d : Int) (d0 : 0 ≤ d) (d1 : d < 16) {h : d.toNat < (⟨#[48, 49, 50, 51, 52, 53, 54, 55, 56, 57, 97, 98, 99, 100, 101, 102]⟩ : ByteArray).size} : (((⟨#[48, 49, 50, 51, 52, 53, 54, 55, 56, 57, 97, 98, 99, 100, 101, 102]⟩ : ByteArray)[d.toNat]'h).toNat : Int) = hexB d := by
  rcases (show d = 0 ∨ d = 1 ∨ d = 2 ∨ d = 3 ∨ d = 4 ∨ d = 5 ∨ d = 6 ∨ d = 7 ∨ d = 8 ∨ d = 9 ∨ d = 10 ∨ d = 11 ∨ d = 12 ∨ d = 13 ∨ d = 14 ∨ d = 15 by omega) with rfl | rfl | rfl | rfl | rfl | rfl | rfl | rfl | rfl | rfl | rfl | rfl | rfl | rfl | rfl | rfl <;> rfl

set_option maxRecDepth 20000 in
set_option maxHeartbeats 8000000 in
theorem text_any (C : List Int) (hC : C.length = 8) (hw : ∀ x ∈ C, 0 ≤ x ∧ x ≤ 18446744073709551615) (w : World) :
    Calls Try.prog 30 #[.agg (ca C)] w fun e w' => e = .returned (.string (strOfNums (txF C))) ∧ Below w.heap.size w w' := by
  obtain ⟨i0, hi, hz0, hz1, hz2⟩ := info_parts info5
  have HI := hid (And.intro hi (And.intro hz0 (And.intro hz1 hz2)))
  clear hi hz0 hz1 hz2
  have h0 := heap_alloc_new w (.cells (ca C) 24)
  go_enter Try.func30, Try.ntmps30
  go_wp2_with (refine wpList_load_row rfl 24 _ rfl w.heap.size rfl 24 (ca C) (0, 0) _ h0 Try.underlying24 rfl (i24 hC) ?_)
  go_loopw [3, 8] (fun v i wr => ∃ k : Nat, k ≤ 8 ∧ i = .int .i64 k ∧ OwnB wr (w.heap.size + 1) v (txp C k) ∧ Below w.heap.size w wr ∧ w.heap.size + 1 ≤ wr.heap.size) (fun _ i _ => 8 - (intOf i).toNat)
  case atStart => exact ⟨0, by omega, rfl, OwnB.nil _ _, (Below.refl _ _).alloc (Nat.le_refl _) _, by simp⟩
  case round =>
    clear h0
    obtain ⟨k, hk, rfl, hO, hb, hs⟩ := hrel
    have HO := hid hO
    clear hO
    by_cases hlt : k < 8
    · have hlt' : k < C.length := by omega
      have hget := run_index24 C hC k hlt
      obtain ⟨x0, x1⟩ := hw (C.getD k 0) (by rw [List.getD_eq_getElem?_getD, List.getElem?_eq_getElem hlt']; exact List.getElem_mem hlt')
      have hlen := txp_len C k
      have hl16 : (txp C k).length ≤ 136 := by rw [hlen]; omega
      have hTX : txp C (k + 1) = txp C k ++ sep k ++ dgs (C.getD k 0) 16 := rfl
      have HTX := hid hTX
      clear hTX hlen
      generalize hx : C.getD k 0 = x at *
      have i0' : (0 : Int) ≤ (k : Int) := by omega
      have i1' : (k : Int) < 8 := by omega
      by_cases hk0 : k = 0
      · have k1 : ¬ (0 : Int) < (k : Int) := by omega
        have HS := hid (show sep k = [] from if_pos hk0)
        have HP : Hid (OwnB wr (w.heap.size + 1) u3 (txp C k ++ sep k)) := hid (by rw [HS.out, List.append_nil]; exact HO.out)
        have hbb := hb
        have hss := hs
        have hpl : (txp C k ++ sep k).length ≤ 140 := by rw [HS.out, List.append_nil]; omega
        clear hk0 hb hs HO HS
        go_wp2_with fail
        go_loopw [3, 6] (fun v i wi => ∃ q : Nat, q ≤ 16 ∧ i = .int .i64 (60 - 4 * (q : Int)) ∧ OwnB wi (w.heap.size + 1) v ((txp C k ++ sep k) ++ dgs x q) ∧ Below w.heap.size w wi ∧ w.heap.size + 1 ≤ wi.heap.size) (fun _ i _ => (intOf i + 4).toNat)
        case atStart => exact ⟨0, by omega, rfl, by simpa [dgs] using HP.out, hbb, hss⟩
        case round =>
          clear hbb hss
          obtain ⟨q, hq, rfl, hO2, hb2, hs2⟩ := hrel
          have HO2 := hid hO2
          clear hO2
          by_cases hlq : q < 16
          · have hE : ((60 : Int) - 4 * (q : Int)).toNat = 60 - 4 * q := by omega
            have j0 : (0 : Int) ≤ 60 - 4 * (q : Int) := by omega
            have j1 : (60 : Int) - 4 * (q : Int) < 64 := by omega
            have y0 : 0 ≤ x / 2 ^ (60 - 4 * q) := Int.ediv_nonneg x0 (Int.le_of_lt (Int.pow_pos (by omega)))
            have y1 : x / 2 ^ (60 - 4 * q) ≤ 18446744073709551615 := Int.le_trans (Int.ediv_le_self _ x0) x1
            have hand := and15 _ y0 y1
            have HD := hid (dgs_succ x q)
            have d0 : 0 ≤ x / 2 ^ (60 - 4 * q) % 16 := Int.emod_nonneg _ (by omega)
            have d1 : x / 2 ^ (60 - 4 * q) % 16 < 16 := Int.emod_lt_of_pos _ (by omega)
            have hdl : (dgs x q).length = q := dgs_len x q
            generalize hde : x / 2 ^ (60 - 4 * q) % 16 = d at *
            clear hde
            go_wp2_with (at_builtin; refine wpList_append_own _ rfl _ _ 62 rfl (w.heap.size + 1) 5 i0 (.int .u8 0) 1 1 Try.underlying62 HI.out.1 HI.out.2.1 HI.out.2.2.1 HI.out.2.2.2 rfl (by decide) _ _ _ rfl (World.ownsRow.alloc (w := wr) HO2.out _) ⟨wr.heap.size, 0, none⟩ 1 1 [.int .u8 _] rfl rfl (cell_one_new _ _ _) (by simp [Value.oneCell']) ?c3 ?c4 ?c5 ?_)
            case c3 => unfold maxLen; rw [List.length_append]; omega
            case c4 => rw [List.length_append]; omega
            case c5 => simp; omega
            intro v' w3 hown hgrow _
            have hkb : ∀ k, u3.ownBlock = some k → w.heap.size + 1 ≤ k := HO2.out.block
            have hb3 : Below w.heap.size w w3 := (hb2.alloc hb2.size _).grown hgrow (by have := hb2.size; simp; omega) (fun k hk => by have := hkb k hk; omega)
            have hs3 : w.heap.size + 1 ≤ w3.heap.size := by have := hgrow.size; simp at this; omega
            rw [hex_at d d0 d1] at hown
            have HO3 := hid hown
            clear hown hgrow hkb
            go_wp2_with fail
            refine ⟨⟨q + 1, by omega, by first | (congr 1; omega) | go_num, ?_, hb3, hs3⟩, by simp [intOf]; omega⟩
            rw [HD.out, ← List.append_assoc]
            exact OwnB.of (by have h := HO3.out; simpa [dgs_len] using h)
          · obtain rfl : q = 16 := by omega
            go_wp2_with fail
            refine ⟨⟨k + 1, by omega, by go_num, ?_, hb2, hs2⟩, by simp [intOf]; omega⟩
            rw [HTX.out]
            exact HO2.out
      · have k1 : (0 : Int) < (k : Int) := by omega
        have HS := hid (show sep k = [32] from if_neg hk0)
        clear hk0
        go_wp2_with (at_builtin; refine wpList_append_own _ rfl _ _ 62 rfl (w.heap.size + 1) 5 i0 (.int .u8 0) 1 1 Try.underlying62 HI.out.1 HI.out.2.1 HI.out.2.2.1 HI.out.2.2.2 rfl (by decide) _ _ _ rfl (World.ownsRow.alloc (w := wr) HO.out _) ⟨wr.heap.size, 0, none⟩ 1 1 [.int .u8 32] rfl rfl (cell_one_new _ _ _) (by simp [Value.oneCell']) ?c3 ?c4 ?c5 ?_)
        case c3 => unfold maxLen; omega
        case c4 => omega
        case c5 => simp; omega
        intro v' w3 hown hgrow _
        have hkb : ∀ k, u3.ownBlock = some k → w.heap.size + 1 ≤ k := HO.out.block
        have hbb : Below w.heap.size w w3 := (hb.alloc hb.size _).grown hgrow (by have := hb.size; simp; omega) (fun k hk => by have := hkb k hk; omega)
        have hss : w.heap.size + 1 ≤ w3.heap.size := by have := hgrow.size; simp at this; omega
        have HP : Hid (OwnB w3 (w.heap.size + 1) v' (txp C k ++ sep k)) := hid (by rw [HS.out]; exact OwnB.of hown)
        have hpl : (txp C k ++ sep k).length ≤ 140 := by rw [HS.out, List.length_append]; simp; omega
        clear hown hgrow hkb hb hs HO HS
        go_wp2_with fail
        go_loopw [3, 6] (fun v i wi => ∃ q : Nat, q ≤ 16 ∧ i = .int .i64 (60 - 4 * (q : Int)) ∧ OwnB wi (w.heap.size + 1) v ((txp C k ++ sep k) ++ dgs x q) ∧ Below w.heap.size w wi ∧ w.heap.size + 1 ≤ wi.heap.size) (fun _ i _ => (intOf i + 4).toNat)
        case atStart => exact ⟨0, by omega, rfl, by simpa [dgs] using HP.out, hbb, hss⟩
        case round =>
          clear hbb hss
          obtain ⟨q, hq, rfl, hO2, hb2, hs2⟩ := hrel
          have HO2 := hid hO2
          clear hO2
          by_cases hlq : q < 16
          · have hE : ((60 : Int) - 4 * (q : Int)).toNat = 60 - 4 * q := by omega
            have j0 : (0 : Int) ≤ 60 - 4 * (q : Int) := by omega
            have j1 : (60 : Int) - 4 * (q : Int) < 64 := by omega
            have y0 : 0 ≤ x / 2 ^ (60 - 4 * q) := Int.ediv_nonneg x0 (Int.le_of_lt (Int.pow_pos (by omega)))
            have y1 : x / 2 ^ (60 - 4 * q) ≤ 18446744073709551615 := Int.le_trans (Int.ediv_le_self _ x0) x1
            have hand := and15 _ y0 y1
            have HD := hid (dgs_succ x q)
            have d0 : 0 ≤ x / 2 ^ (60 - 4 * q) % 16 := Int.emod_nonneg _ (by omega)
            have d1 : x / 2 ^ (60 - 4 * q) % 16 < 16 := Int.emod_lt_of_pos _ (by omega)
            have hdl : (dgs x q).length = q := dgs_len x q
            generalize hde : x / 2 ^ (60 - 4 * q) % 16 = d at *
            clear hde
            go_wp2_with (at_builtin; refine wpList_append_own _ rfl _ _ 62 rfl (w.heap.size + 1) 5 i0 (.int .u8 0) 1 1 Try.underlying62 HI.out.1 HI.out.2.1 HI.out.2.2.1 HI.out.2.2.2 rfl (by decide) _ _ _ rfl (World.ownsRow.alloc (w := wr) HO2.out _) ⟨wr.heap.size, 0, none⟩ 1 1 [.int .u8 _] rfl rfl (cell_one_new _ _ _) (by simp [Value.oneCell']) ?c3 ?c4 ?c5 ?_)
            case c3 => unfold maxLen; rw [List.length_append]; omega
            case c4 => rw [List.length_append]; omega
            case c5 => simp; omega
            intro v' w3 hown hgrow _
            have hkb : ∀ k, u3.ownBlock = some k → w.heap.size + 1 ≤ k := HO2.out.block
            have hb3 : Below w.heap.size w w3 := (hb2.alloc hb2.size _).grown hgrow (by have := hb2.size; simp; omega) (fun k hk => by have := hkb k hk; omega)
            have hs3 : w.heap.size + 1 ≤ w3.heap.size := by have := hgrow.size; simp at this; omega
            rw [hex_at d d0 d1] at hown
            have HO3 := hid hown
            clear hown hgrow hkb
            go_wp2_with fail
            refine ⟨⟨q + 1, by omega, by first | (congr 1; omega) | go_num, ?_, hb3, hs3⟩, by simp [intOf]; omega⟩
            rw [HD.out, ← List.append_assoc]
            exact OwnB.of (by have h := HO3.out; simpa [dgs_len] using h)
          · obtain rfl : q = 16 := by omega
            go_wp2_with fail
            refine ⟨⟨k + 1, by omega, by go_num, ?_, hb2, hs2⟩, by simp [intOf]; omega⟩
            rw [HTX.out]
            exact HO2.out
    · obtain rfl : k = 8 := by omega
      have hln : (txp C 8).length = 135 := txp_len C 8
      obtain ⟨g, c, hv, hcells⟩ := HO.out.reads (by omega)
      subst hv
      have hcv := run_convert_bytes_arg wr 62 5 Try.underlying62 Try.underlying5 g 0 135 c (txp C 8) hln (fun i hi => hcells i (by omega)) 9 Try.underlying9
      rw [hln]
      clear hcells HO
      go_wp2_with fail
      go_ret
      exact ⟨rfl, hb⟩
end Go.Proofs.Ytgibkebdkhildaa
