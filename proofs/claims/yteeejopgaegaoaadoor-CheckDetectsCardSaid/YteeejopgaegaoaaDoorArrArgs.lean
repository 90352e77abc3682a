/- An array among a law's arguments: its elements' readings, their sizes, its value. No condition of its own. -/
import Derived.Test.YteeejopgaegaoaaDoorOpenArgs
import Derived.OpenShut
namespace Go.Proofs.YteeejopgaegaoaaDoorW.PrintWords
open Go.RowKit Go.ChangeShapes Go.WideShapes
variable {H : Type} {enc : TypeId × Value → H} {P : Program} {w : World} {base : Nat} {spare : Nat → Bool} {held : Bool} {t : TypeId} {fuel : Nat} {cs : List Value} {x : DataW H × List MemPlace}
theorem array_fields {n : Nat} {e : TypeId} (hs : P.underlying t = some (.array n e)) (he : P.cellsOf e = 1) (hC : P.cellsOf t = n) (h : DataW.trod enc P w base spare held fuel t cs = some x) :
    ∃ (ys : List (DataW H × List MemPlace)) (m : Nat), x.1 = .agg (ys.map (·.1)) ∧ cs.length = n ∧ ys.length = n ∧
      ∀ (j : Nat), j < n → ∃ (v : Value) (y : DataW H × List MemPlace), cs[j]? = some v ∧ ys[j]? = some y ∧ DataW.trod enc P w base spare held m e [v] = some y := by
  obtain ⟨ys, m, _, hx, hcl, hyl, hf⟩ := DataW.trod_array hs h
  rw [hC] at hcl
  refine ⟨ys, m, by rw [hx], hcl, hyl, fun j hj => ?_⟩
  have h1 := hf j hj
  rw [he, Nat.mul_one] at h1
  have h2 : (cs.drop j).take 1 = [cs[j]'(by omega)] := by
    rw [List.drop_eq_getElem_cons (by omega)]
    rfl
  rw [h2] at h1
  have hys : ys[j]? = some (ys[j]'(by omega)) := List.getElem?_eq_getElem (by omega)
  exact ⟨_, _, List.getElem?_eq_getElem (by omega), hys, h1.trans hys⟩
theorem weight_elem {n : Nat} {e : TypeId} (hu : P.underlying t = some (.array n e)) {ys : List (DataW H × List MemPlace)} {j : Nat} {y : DataW H × List MemPlace} (hy : ys[j]? = some y) {k : Nat} (hn : k ∈ y.1.weights P e) :
    k ∈ (DataW.agg (ys.map (·.1))).weights P t := by
  have h : (DataW.agg (ys.map (·.1))).weights P t = DataW.weightsAll P e (ys.map (·.1)) := by simp [DataW.weights, hu]
  rw [h]
  exact weightsAll_mem hn (List.mem_map.mpr ⟨y, List.mem_of_getElem? hy, rfl⟩)
theorem okWide_array {r : Reach} {b0 : Nat} {v : Value} {n : Nat} {e : TypeId} (ht : P.underlying t = some (.array n e)) (h : Value.okWide P w r b0 t v) : ∃ cs, v = .agg cs ∧ cs.size = P.cellsOf t := by
  simp only [Value.okWide, ht] at h
  obtain ⟨cs, h1, h2, _⟩ := h
  exact ⟨cs, h1, h2⟩
end Go.Proofs.YteeejopgaegaoaaDoorW.PrintWords
