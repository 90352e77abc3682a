/- A store leaves it as it is which cells are there. No condition of its own. -/
import Derived.Tactics
import Derived.Laws.World
namespace Go.Proofs.YtmalhgidhieamaaDoorW.PrintWords
theorem isSome_set (w : World) (p a : Addr) (v : Value) : ((w.setCell p v).cell? a).isSome = (w.cell? a).isSome := by
  by_cases h : p = a
  · subst h
    cases hc : w.cell? p with
    | some u => rw [World.cell?_setCell_same w p v hc]; rfl
    | none =>
      simp only [World.setCell, World.cell?, Array.getElem?_modify, if_true] at hc ⊢
      cases hh : w.heap[p.block]? with
      | none => simp
      | some x => rw [hh] at hc; cases x <;> simp_all
  · rw [World.cell?_setCell_other w p a v h]
end Go.Proofs.YtmalhgidhieamaaDoorW.PrintWords
