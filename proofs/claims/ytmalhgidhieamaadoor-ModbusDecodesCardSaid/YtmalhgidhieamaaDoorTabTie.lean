/- What the row's condition on check.table gives: the table's cells are those that the functions' proofs ask for; and a start that meets it. No condition of its own. -/
import Derived.Test.YtmalhgidhieamaaDoorRows
import Derived.Test.YtmalhgidhieamaaDoorTabCheck
import Derived.ProofKit
import Derived.LaidMore
import Derived.OpenShut
import Derived.Stop.Joined
namespace Go.Proofs.YtmalhgidhieamaaDoor.Tab
open Go.ChangeShapes Go.WideShapes Go.ChangeAt Go.RowKit Go.Proofs.YtmalhgidhieamaaDoorW.PrintWords
def tabLaid : List (String × DataW Unit) := [("signalbench/check.table", Rows.laid_signalbench_check_table)]
theorem gTab : Tryd.prog.globalNamed "signalbench/check.table" = some 0 := by kernel_rfl
theorem tTab : (Tryd.prog.globals[0]?).map (·.type) = some 74 := by kernel_rfl
theorem door_met (os : Os) (args : Array Value) : laidMetH Tryd.prog tabLaid ((World.doorLaid Tryd.prog 24 os).forCall (fun _ _ => 0) ⟨#[], args, []⟩).memory :=
  laidMetH_of_parts3 (fuel := 8) (laidMet_of_run' 8 (by kernel_rfl) (by kernel_rfl)) (by kernel_rfl) (by kernel_rfl)
theorem c9 : Tryd.prog.cellsOf 9 = 1 := by kernel_rfl
theorem c3 : Tryd.prog.cellsOf 3 = 1 := by kernel_rfl
theorem c4 : Tryd.prog.cellsOf 4 = 1 := by kernel_rfl
theorem cCrc : Tryd.prog.cellsOf 67 = 5 := by kernel_rfl
theorem cEnt : Tryd.prog.cellsOf 73 = 6 := by kernel_rfl
theorem cArr : Tryd.prog.cellsOf 74 = 30 := by kernel_rfl
section
variable {H : Type} {enc : TypeId × Value → H} {W : World} {base : Nat} {sp : Nat → Bool} {held : Bool} {fuel : Nat} {cs : List Value} {ps : List MemPlace}
theorem crc_cells {a b c d : Int} {r : Bool} {x : DataW H × List MemPlace} (h : DataW.trod enc Tryd.prog W base sp held fuel 67 cs = some x) (hx : x.1 = .agg [.lit (.int .i64 a), .lit (.int .i64 b), .lit (.int .i64 c), .lit (.int .i64 d), .lit (.bool r)]) :
    cs = [.int .i64 a, .int .i64 b, .int .i64 c, .int .i64 d, .bool r] := by
  obtain ⟨xs, n, _, hx1, hcl, hxl, hf⟩ := DataW.trod_struct Tryd.underlying67 h
  rw [cCrc] at hcl
  have f0 : DataW.trod enc Tryd.prog W base sp held n 3 ((cs.drop 0).take (Tryd.prog.cellsOf 3)) = xs[0]? := hf 0 _ rfl
  have f1 : DataW.trod enc Tryd.prog W base sp held n 3 ((cs.drop 1).take (Tryd.prog.cellsOf 3)) = xs[1]? := hf 1 _ rfl
  have f2 : DataW.trod enc Tryd.prog W base sp held n 3 ((cs.drop 2).take (Tryd.prog.cellsOf 3)) = xs[2]? := hf 2 _ rfl
  have f3 : DataW.trod enc Tryd.prog W base sp held n 3 ((cs.drop 3).take (Tryd.prog.cellsOf 3)) = xs[3]? := hf 3 _ rfl
  have f4 : DataW.trod enc Tryd.prog W base sp held n 4 ((cs.drop 4).take (Tryd.prog.cellsOf 4)) = xs[4]? := hf 4 _ rfl
  clear hf
  match cs, hcl with
  | [v0, v1, v2, v3, v4], _ =>
  match xs, hxl with
  | [y0, y1, y2, y3, y4], _ =>
  simp only [c3, c4, List.drop_succ_cons, List.drop_zero, List.take_succ_cons, List.take_zero, List.getElem?_cons_zero, List.getElem?_cons_succ] at f0 f1 f2 f3 f4
  rw [hx1] at hx
  simp only [List.map_cons, List.map_nil, DataW.agg.injEq, List.cons.injEq, and_true] at hx
  obtain ⟨h0, h1, h2, h3, h4⟩ := hx
  obtain ⟨n0, e0, g0, _⟩ := DataW.trod_int Tryd.underlying3 f0
  obtain ⟨n1, e1, g1, _⟩ := DataW.trod_int Tryd.underlying3 f1
  obtain ⟨n2, e2, g2, _⟩ := DataW.trod_int Tryd.underlying3 f2
  obtain ⟨n3, e3, g3, _⟩ := DataW.trod_int Tryd.underlying3 f3
  obtain ⟨n4, e4, g4⟩ := DataW.trod_bool Tryd.underlying4 f4
  subst g0 g1 g2 g3 g4
  simp at h0 h1 h2 h3 h4 e0 e1 e2 e3 e4
  subst h0 h1 h2 h3 h4 e0 e1 e2 e3 e4
  rfl
theorem entry_cells {s : List UInt8} {y : DataW H} {x : DataW H × List MemPlace} (h : DataW.trod enc Tryd.prog W base sp held fuel 73 cs = some x) (hx : x.1 = .agg [.lit (.string s), y]) :
    ∃ (c : List Value) (m : Nat) (z : DataW H × List MemPlace), cs = .string ⟨s.toArray⟩ :: c ∧ DataW.trod enc Tryd.prog W base sp held m 67 c = some z ∧ z.1 = y := by
  obtain ⟨xs, n, _, hx1, hcl, hxl, hf⟩ := DataW.trod_struct Tryd.underlying73 h
  rw [cEnt] at hcl
  have f0 : DataW.trod enc Tryd.prog W base sp held n 9 ((cs.drop 0).take (Tryd.prog.cellsOf 9)) = xs[0]? := hf 0 _ rfl
  have f1 : DataW.trod enc Tryd.prog W base sp held n 67 ((cs.drop 1).take (Tryd.prog.cellsOf 67)) = xs[1]? := hf 1 _ rfl
  clear hf
  match cs, hcl with
  | [v0, v1, v2, v3, v4, v5], _ =>
  match xs, hxl with
  | [y0, y1], _ =>
  simp only [c9, cCrc, List.drop_succ_cons, List.drop_zero, List.take_succ_cons, List.take_zero, List.getElem?_cons_zero, List.getElem?_cons_succ] at f0 f1
  rw [hx1] at hx
  simp only [List.map_cons, List.map_nil, DataW.agg.injEq, List.cons.injEq, and_true] at hx
  obtain ⟨n0, e0, g0, _⟩ := DataW.trod_string Tryd.underlying9 f0
  refine ⟨_, n, y1, ?_, f1, hx.2⟩
  have h1 := hx.1
  rw [g0] at h1
  simp at h1 e0
  subst h1 e0
  rfl
end
theorem one_cells {H : Type} {enc : TypeId × Value → H} {W : World} {base : Nat} {sp : Nat → Bool} {held : Bool} {fuel : Nat} {cs : List Value} {s : List UInt8} {a b c d : Int} {r : Bool} {x : DataW H × List MemPlace}
    (h : DataW.trod enc Tryd.prog W base sp held fuel 73 cs = some x) (hx : x.1 = .agg [.lit (.string s), .agg [.lit (.int .i64 a), .lit (.int .i64 b), .lit (.int .i64 c), .lit (.int .i64 d), .lit (.bool r)]]) :
    cs = [.string ⟨s.toArray⟩, .int .i64 a, .int .i64 b, .int .i64 c, .int .i64 d, .bool r] := by
  obtain ⟨c, m, z, rfl, hz, e⟩ := entry_cells h hx
  rw [crc_cells hz e]
theorem tab_of_laid {W : World} (h : laidMetH Tryd.prog tabLaid W) : TabOk W := by
  rw [MakeChecks.laidMetH_plain _ _ _ (by kernel_rfl)] at h
  obtain ⟨ps, ⟨g, t, cs, fuel, p, q, hg, ht, hvar, hd, _, _⟩, _⟩ := h
  obtain rfl := Option.some.inj (gTab.symm.trans hg)
  obtain rfl := Option.some.inj (tTab.symm.trans ht)
  have key : cs.toList = tabCells := by
    obtain ⟨xs, m, _, hx, hcl, hxl, hf⟩ := DataW.trod_array Tryd.underlying74 hd
    rw [cArr] at hcl
    have f0 := hf 0 (by decide)
    have f1 := hf 1 (by decide)
    have f2 := hf 2 (by decide)
    have f3 := hf 3 (by decide)
    have f4 := hf 4 (by decide)
    clear hf
    match xs, hxl with
    | [x0, x1, x2, x3, x4], _ =>
    simp only [Rows.laid_signalbench_check_table, Prod.mk.injEq, List.map_cons, List.map_nil, DataW.agg.injEq, List.cons.injEq, and_true] at hx
    obtain ⟨⟨h0, h1, h2, h3, h4⟩, _⟩ := hx
    rw [cEnt] at f0 f1 f2 f3 f4
    have g0 := one_cells f0 h0.symm
    have g1 := one_cells f1 h1.symm
    have g2 := one_cells f2 h2.symm
    have g3 := one_cells f3 h3.symm
    have g4 := one_cells f4 h4.symm
    generalize cs.toList = l at *
    have e : l = (l.drop (0 * 6)).take 6 ++ ((l.drop (1 * 6)).take 6 ++ ((l.drop (2 * 6)).take 6 ++ ((l.drop (3 * 6)).take 6 ++ (l.drop (4 * 6)).take 6))) := by
      have a4 : (l.drop 24).take 6 = l.drop 24 := List.take_of_length_le (by rw [List.length_drop]; omega)
      have a3 : (l.drop 18).take 6 ++ l.drop 24 = l.drop 18 := by conv => rhs; rw [← List.take_append_drop 6 (l.drop 18), List.drop_drop]
      have a2 : (l.drop 12).take 6 ++ l.drop 18 = l.drop 12 := by conv => rhs; rw [← List.take_append_drop 6 (l.drop 12), List.drop_drop]
      have a1 : (l.drop 6).take 6 ++ l.drop 12 = l.drop 6 := by conv => rhs; rw [← List.take_append_drop 6 (l.drop 6), List.drop_drop]
      have a0 : (l.drop 0).take 6 ++ l.drop 6 = l := by rw [List.drop_zero, List.take_append_drop]
      show l = (l.drop 0).take 6 ++ ((l.drop 6).take 6 ++ ((l.drop 12).take 6 ++ ((l.drop 18).take 6 ++ (l.drop 24).take 6)))
      rw [a4, a3, a2, a1, a0]
    rw [e, g0, g1, g2, g3, g4]
    rfl
  intro i v hv
  have := World.var?_cell hg hvar i
  rw [this, ← Array.getElem?_toList, key]
  exact hv
end Go.Proofs.YtmalhgidhieamaaDoor.Tab
