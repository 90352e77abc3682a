/- Short words for what the printed walks say again and again: a block, or what lies below, behind draws and new blocks; the spelling of slots. No condition of its own. -/
import Derived.Test.YtmalhgidhieamaaDoorVMore
import Derived.Test.YtmalhgidhieamaaDoorVFour
import Derived.Test.YtmalhgidhieamaaDoorVTab
import Derived.Test.YtmalhgidhieamaaDoorVLast
import Derived.KernelRfl
import Derived.Test.YtmalhgidhieamaaDoorRowB
namespace Go.Proofs.YtmalhgidhieamaaDoorW.PrintWords
open Go.RowKit
theorem bkw {w w' : World} {g : Nat} {o : Obj} (h : w.heap[g]? = some o) (t : w.heap[g]? = some o → w'.heap[g]? = some o := by intro h_; (with_reducible repeat (first | refine blk_drewN ?_ _ | refine blk_drew ?_ | refine blk_alloc ?_ _)); exact h_) : w'.heap[g]? = some o := t h
theorem blkb {w w' w1 : World} {g : Nat} {o : Obj} (h : w.heap[g]? = some o) (hb : Below w'.heap.size w' w1) (t : w.heap[g]? = some o → w'.heap[g]? = some o := by intro h_; (with_reducible repeat (first | refine blk_drewN ?_ _ | refine blk_drew ?_ | refine blk_alloc ?_ _)); exact h_) : w1.heap[g]? = some o := blk_below (t h) hb
theorem blkl {w w' : World} {g : Nat} {o : Obj} (h : w.heap[g]? = some o) (t : w.heap[g]? = some o → w'.heap[g]? = some o := by intro h_; (with_reducible repeat (first | refine blk_drewN ?_ _ | refine blk_drew ?_ | refine blk_alloc ?_ _)); exact h_) : g < w'.heap.size := blk_lt (t h)
theorem blkg {w w' w1 : World} {g : Nat} {o : Obj} {row : Option Nat} (h : w.heap[g]? = some o) (hg : w'.grownBy w1 row) (hne : some g ≠ row) (t : w.heap[g]? = some o → w'.heap[g]? = some o := by intro h_; (with_reducible repeat (first | refine blk_drewN ?_ _ | refine blk_drew ?_ | refine blk_alloc ?_ _)); exact h_) : w1.heap[g]? = some o := blk_grown (t h) hg hne
theorem hbw {w0 w w' : World} (h : Below w0.heap.size w0 w) (t : Below w0.heap.size w0 w → Below w0.heap.size w0 w' := by intro h_; repeat (first | (with_reducible first | exact h_ | apply below_alloc | apply pw_below_drewN | apply below_drew1 | refine below_set ?_ (Aside0.out (by assumption))) | exact h_)) : Below w0.heap.size w0 w' := t h
theorem rkw {α : Type} {d : Kd α} {e : Nat} {w w' : World} {base : Nat} {ok : Nat → Prop} {v : Value} {xs : List α} (h : Kd.R d e w base ok v xs) (t : Kd.R d e w base ok v xs → Kd.R d e w' base ok v xs := by intro h_; (with_reducible repeat (first | apply Kd.R_alloc | apply Kd.R_drewN | apply Kd.R_drew)); exact h_) : Kd.R d e w' base ok v xs := t h
theorem nrm : (∀ (l : List Value) (i : Nat) (v : Value), l.toArray.setIfInBounds i v = (l.set i v).toArray) ∧ (∀ (a : Value) (l : List Value) (v : Value), (a :: l).set 0 v = v :: l) ∧ (∀ (a : Value) (l : List Value) (n : Nat) (v : Value), (a :: l).set (n + 1) v = a :: l.set n v) ∧
    (∀ n : Int, IntKind.i64.wrap n = wrap64 n) ∧ (∀ n : Int, IntKind.i32.wrap n = wrap32 n) ∧ (∀ n : Int, IntKind.u8.wrap n = n % 256) ∧ (∀ n : Int, IntKind.u32.wrap n = n % 4294967296) ∧ (∀ n : Int, wrap64 (n % 256) = n % 256) ∧ (∀ n : Int, wrap64 (n % 4294967296) = n % 4294967296) :=
  ⟨fun _ _ _ => List.setIfInBounds_toArray .., fun _ _ _ => rfl, fun _ _ _ _ => rfl, PrintLast.i64_w, PrintLast.i32_w, u8_w, u32_w, w64_m8, w64_m32⟩
end Go.Proofs.YtmalhgidhieamaaDoorW.PrintWords
namespace Go.Proofs.YtmalhgidhieamaaDoorW.PrintLast
open Go.RowKit Go.Proofs.YtmalhgidhieamaaDoorW.PrintWords
section
variable {P : Program} {md : Region.Mode} {ops : Array Oper} {Q : Exit → Act → World → Prop} {S : World → Prop} {ds : List Nat} {T : Bool × List (List Nat × List Nat)} {B : List Nat}
/-- A pure operation of a region that draws. -/
theorem pstep (i : Nat) (N : Option Tmp) {oi : Oper} {v : Value} {fuel : Nat} {l : Array Bool} {a : Act} {w : World} (l' : Array Bool) (hT : rtab md ops = T) {a' : Act}
    (h : wpAnyLast P md ops Q S ds fuel l' a' w) (hi : ops[i]? = some oi := by rfl) (hN : oi.dst = N := by rfl) (hc : anyT T l.toList l'.toList i = true := by kernel_rfl)
    (hQ : ∀ c a w, Q (.panic c) (a.put oi.dst v) w → Q (.panic c) a w := by exact fun _ _ _ h => h)
    (hy : Yields P ops oi v a := by (refine Or.inl ⟨by rfl, ?_⟩; intro w'; go_simp; with_reducible rfl))
    (ha : a.put N v = a' := by (simp only [Act.put, nrm]; rfl)) : wpAnyLast P md ops Q S ds (fuel + 1) l a w :=
  pure_ l' hi hN (any_of hT hc) hQ hy ha h
end
theorem bneN (a b : Bool) : (a != b) = (!a == b) := by cases a <;> cases b <;> rfl
end Go.Proofs.YtmalhgidhieamaaDoorW.PrintLast
