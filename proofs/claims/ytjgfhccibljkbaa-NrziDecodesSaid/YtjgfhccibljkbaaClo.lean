/- A store of what is there changes nothing. No condition of its own. -/
import Derived.Tactics
import Derived.Laws.World
namespace Go.Proofs.YtjgfhccibljkbaaW.PrintWords
theorem setCell_self (w : World) (p : Addr) (v : Value) (h : w.cell? p = some v) : w.setCell p v = w := by
  have hh : (w.setCell p v).heap = w.heap := by
    unfold World.setCell
    apply Array.ext_getElem?
    intro i
    dsimp only
    rw [Array.getElem?_modify]
    by_cases hi : p.block = i
    · subst hi
      rw [if_pos rfl]
      unfold World.cell? at h
      cases hb : w.heap[p.block]? with
      | none => rfl
      | some o =>
        rw [hb] at h
        cases o with
        | cells c e f =>
          dsimp only at h
          cases hs : p.spot.isSome with
          | true => rw [hs] at h; simp at h
          | false =>
            rw [hs] at h
            simp only [Bool.false_eq_true, ↓reduceIte] at h
            simp only [Option.map_some, Bool.false_eq_true, ↓reduceIte]
            congr 2
            apply Array.ext_getElem?
            intro j
            rw [Array.getElem?_setIfInBounds]
            split
            · rename_i e; subst e
              rw [h]
              split
              · rfl
              · rename_i hlt
                rw [Array.getElem?_eq_none (by omega)] at h
                cases h
            · rfl
        | _ => rfl
    · rw [if_neg hi]
  have : w.setCell p v = { w with heap := (w.setCell p v).heap } := rfl
  rw [this, hh]
end Go.Proofs.YtjgfhccibljkbaaW.PrintWords
