import Derived.Test.YtgibkebdkhildaaF
import Derived.OpenShut
import Derived.Deep.Fields
import Derived.Deep.Slices
import Derived.WideShapes
namespace Go.Proofs.Ytgibkebdkhildaa
open Go.RowKit Go.WideShapes
variable {H : Type} {enc : TypeId × Value → H} {P : Program} {w : World} {base : Nat} {spare : Nat → Bool} {held : Bool}
theorem open_arr {r : Reach} {b0 : Nat} {t e : TypeId} {n : Nat} {v : Value} {d : DataW H} {p : List MemPlace} (ht : P.underlying t = some (.array n e)) (he : P.underlying e = some (.int .u64)) (hC : P.cellsOf e = 1) (hT : P.cellsOf t = n)
    (hv : Value.okWide P w r b0 t v) (h : DataW.Trod enc P w base spare held t v d p) :
    ∃ C : List Int, v = .agg (ca C) ∧ C.length = n ∧ ∀ x ∈ C, (Lit.int .u64 x).wf = true := by
  have hagg : ∃ cs, v = .agg cs := by
    simp only [Value.okWide, ht] at hv
    obtain ⟨cs, h1, h2, _⟩ := hv
    exact ⟨cs, h1⟩
  obtain ⟨cs, rfl⟩ := hagg
  obtain ⟨fuel, hf⟩ := h
  obtain ⟨xs, m, _, _, hlen, hxl, hg⟩ := DataW.trod_array ht hf
  obtain ⟨l⟩ := cs
  simp only [Value.cells] at hlen hg
  rw [hT] at hlen
  have hcell : ∀ i (hi : i < l.length), ∃ a, l[i] = .int .u64 a ∧ (Lit.int .u64 a).wf = true := by
    intro i hi
    have h1 := hg i (by omega)
    rw [hC, Nat.mul_one] at h1
    have hd : (l.drop i).take 1 = [l[i]] := by
      rw [List.drop_eq_getElem_cons hi]
      rfl
    rw [hd, List.getElem?_eq_getElem (show i < xs.length by omega)] at h1
    obtain ⟨a, h2, _, h3⟩ := DataW.trod_int he h1
    exact ⟨a, by simpa using h2, h3⟩
  refine ⟨l.map (fun c => match c with | .int _ a => a | _ => 0), ?_, by simpa using hlen, ?_⟩
  · congr 1
    apply Array.ext_getElem?
    intro i
    by_cases hi : i < l.length
    · obtain ⟨a, h1, _⟩ := hcell i hi
      simp [ca, List.getElem?_eq_getElem hi, h1]
    · simp [ca, List.getElem?_eq_none (Nat.le_of_not_lt hi)]
  · intro x hx
    obtain ⟨c, hc, rfl⟩ := List.mem_map.1 hx
    obtain ⟨i, hi, rfl⟩ := List.mem_iff_getElem.1 hc
    obtain ⟨a, h1, h2⟩ := hcell i hi
    rw [h1]
    exact h2
end Go.Proofs.Ytgibkebdkhildaa
