/- Slices of structs of two integers that came in: as a list of pairs. Proved over any program. -/
import Derived.Deep.Slices
import Derived.Deep.Fields
import Derived.ChangeSame
import Derived.OpenShut
import Derived.Test.YtaklhokabnjjcaaDoorG
namespace Go.Proofs.YtaklhokabnjjcaaDoor
open Go.RowKit Go.ChangeShapes Go.WideShapes Go.Deep

section
variable {H : Type} {enc : TypeId × Value → H} {P : Program} {w : World} {base : Nat} {spare : Nat → Bool} {held : Bool}
theorem open_slice_fields {t e : TypeId} {fs : Array Field} {fuel : Nat} {cs : List Value} {x : DataW H × List MemPlace} (ht : P.underlying t = some (.slice e)) (he : P.underlying e = some (.struct fs))
    (hone : oneCellFields P fs = true) (hC : P.cellsOf e = fs.size) (h : DataW.trod enc P w base spare held fuel t cs = some x) :
    (cs = [.slice none 0 0] ∧ x = (.nil, [])) ∨
    ∃ (a : Addr) (len cap m : Nat), cs = [.slice (some a) len cap] ∧ len ≤ cap ∧ cap ≤ maxLen ∧ m = (if spare a.block then cap else len) ∧
      ∀ i, i < m → ∃ (n : Nat),
        ∀ (j : Nat) (f : Field), fs[j]? = some f → ∃ (v : Value) (y : DataW H × List MemPlace), w.cell? (a.add (i * fs.size + j)) = some v ∧ DataW.trod enc P w base spare held n f.type [v] = some y := by
  rcases open_slice ht h with h0 | ⟨a, len, cap, m, n, D, Pl, hcs, hb, hl, hm, hmm, hx, hi⟩
  · exact .inl h0
  · refine .inr ⟨a, len, cap, m, hcs, hl, hm, hmm, fun i him => ?_⟩
    obtain ⟨cs', hc, ht'⟩ := hi i him
    rw [hC] at hc
    obtain ⟨ys, n', hn', hy, hlen, hyl, hf⟩ := DataW.trod_struct he ht'
    obtain ⟨_, hcl, hat⟩ := World.cells?_some hc
    refine ⟨n', fun j f hj => ?_⟩
    obtain ⟨ho, hk⟩ := hone_of hone j f hj
    have hjl : j < fs.size := (Array.getElem?_eq_some_iff.1 hj).1
    have hcell := hat j hjl
    have hv : cs'[j]? = some (cs'[j]'(by omega)) := List.getElem?_eq_getElem (by omega)
    have h1 := hf j f hj
    rw [ho, hk] at h1
    have hone' : (cs'.drop j).take 1 = [cs'[j]'(by omega)] := by
      rw [List.drop_eq_getElem_cons (by omega)]
      rfl
    rw [hone'] at h1
    have hys : ys[j]? = some (ys[j]'(by omega)) := List.getElem?_eq_getElem (by omega)
    refine ⟨_, _, ?_, h1.trans hys⟩
    rw [← Go.Deep.add_add, hcell, hv]

/-- a slice of structs of two integers -/
theorem pairs_of {t e : TypeId} {f0 f1 : Field} {a : Option Addr} {len cap : Nat} {d : DataW H} {p : List MemPlace} (ht : P.underlying t = some (.slice e)) (he : P.underlying e = some (.struct #[f0, f1]))
    (hone : oneCellFields P #[f0, f1] = true) (hC : P.cellsOf e = 2) (h0 : P.underlying f0.type = some (.int .i64)) (h1 : P.underlying f1.type = some (.int .i64))
    (h : DataW.Trod enc P w base spare held t (.slice a len cap) d p) :
    ∃ evs : List (Int × Int), evs.length = len ∧ RdP w a evs ∧ (∀ e ∈ evs, (Lit.int .i64 e.1).wf = true ∧ (Lit.int .i64 e.2).wf = true) := by
  obtain ⟨fuel, hf⟩ := h
  rcases open_slice_fields ht he hone hC hf with ⟨hcs, _⟩ | ⟨x, l, c, m, hcs, hl, hm, hmm, hc⟩
  · simp [Value.cells] at hcs
    obtain ⟨rfl, rfl, rfl⟩ := hcs
    exact ⟨[], rfl, Or.inl rfl, by simp⟩
  · simp [Value.cells] at hcs
    obtain ⟨rfl, rfl, rfl⟩ := hcs
    have hle : len ≤ m := by rw [hmm]; split <;> omega
    have hp : ∀ i, i < len → ∃ u v : Int, w.cell? (x.add (i * 2)) = some (.int .i64 u) ∧ w.cell? (x.add (i * 2 + 1)) = some (.int .i64 v) ∧ (Lit.int .i64 u).wf = true ∧ (Lit.int .i64 v).wf = true := by
      intro i hi
      obtain ⟨n, hn⟩ := hc i (by omega)
      obtain ⟨v0, y0, c0, t0⟩ := hn 0 f0 rfl
      obtain ⟨v1, y1, c1, t1⟩ := hn 1 f1 rfl
      obtain ⟨u, e0, _, w0⟩ := DataW.trod_int h0 t0
      obtain ⟨v, e1, _, w1⟩ := DataW.trod_int h1 t1
      simp only [List.cons.injEq, and_true] at e0 e1
      subst e0 e1
      exact ⟨u, v, by simpa using c0, by simpa using c1, w0, w1⟩
    by_cases hz : len = 0
    · subst hz
      exact ⟨[], rfl, Or.inl rfl, by simp⟩
    obtain ⟨b, off, spot⟩ := x
    obtain ⟨_, _, c0, _⟩ := hp 0 (by omega)
    have hspot : spot = none := by simpa [Addr.add] using World.cell?_spot c0
    subst hspot
    have hadd : ∀ k, (⟨b, off, none⟩ : Addr).add k = ⟨b, off + k, none⟩ := fun k => by unfold Addr.add; split <;> simp_all
    simp only [hadd] at hp
    let F : Nat → Int × Int := fun i => if h : i < len then ((hp i h).choose, (hp i h).choose_spec.choose) else (0, 0)
    have hF : ∀ i, i < len → w.cell? ⟨b, off + i * 2, none⟩ = some (.int .i64 (F i).1) ∧ w.cell? ⟨b, off + i * 2 + 1, none⟩ = some (.int .i64 (F i).2) ∧ (Lit.int .i64 (F i).1).wf = true ∧ (Lit.int .i64 (F i).2).wf = true := by
      intro i hi
      have := (hp i hi).choose_spec.choose_spec
      simp only [F, dif_pos hi]
      exact ⟨this.1, by rw [Nat.add_assoc]; exact this.2.1, this.2.2.1, this.2.2.2⟩
    refine ⟨(List.range len).map F, by simp, Or.inr ⟨b, off, rfl, fun i hi => ?_⟩, fun e he => ?_⟩
    · have hi' : i < len := by simpa using hi
      have := hF i hi'
      simp only [List.getElem_map, List.getElem_range]
      exact ⟨this.1, this.2.1⟩
    · obtain ⟨i, hi, rfl⟩ := List.mem_map.1 he
      have := hF i (by simpa using hi)
      exact ⟨this.2.2.1, this.2.2.2⟩
end
end Go.Proofs.YtaklhokabnjjcaaDoor
