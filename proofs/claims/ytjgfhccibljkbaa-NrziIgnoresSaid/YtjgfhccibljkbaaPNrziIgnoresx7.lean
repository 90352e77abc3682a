-- Written by a program of this session (wip/tools/pr.py), which calls the kit's print with changes of its own.
import Derived.Test.YtjgfhccibljkbaaPNrziIgnoresx0
import Derived.Test.YtjgfhccibljkbaaPNrziIgnoresx2
import Derived.Test.YtjgfhccibljkbaaPNrziIgnoresx4
import Derived.Test.YtjgfhccibljkbaaPNrziIgnoresx6
namespace Go.Proofs.Ytjgfhccibljkbaa.PNrziIgnores
open Go.RowKit Go.Proofs.YtjgfhccibljkbaaW.PrintWords Go.Proofs.YtjgfhccibljkbaaW.PrintLast Go.Proofs.YtjgfhccibljkbaaW.PrintMore
attribute [local go_sem] max2_int min2_int max_two min_two max_three min_three max_four min_four   -- for this text's walks alone
set_option linter.unusedVariables false
set_option linter.unusedSimpArgs false

/-! ### signalbenchlaw16_NrziIgnores: function 6 -/
mutual
def signalbenchlaw16_NrziIgnores.j0 : Nat → List (S33) → Bool → Bool → Int → Int → Int → Int → Int → ByteArray → Int → Option (Bool)
 | 0, _, _, _, _, _, _, _, _, _, _ => none
 | k + 1, x1, x37, x201000, x202000, x202001, x202002, x202003, x202004, x202005, x202006 => if x37 = true then ((signalbenchlaw16_awake.f k).bind fun t203 => (some t203)) else (signalbenchlaw16_NrziIgnores.j1 k x1 x201000 x202000 x202001 x202002 x202003 x202004 x202005 x202006)
def signalbenchlaw16_NrziIgnores.j1 : Nat → List (S33) → Bool → Int → Int → Int → Int → Int → ByteArray → Int → Option (Bool)
 | 0, _, _, _, _, _, _, _, _, _ => none
 | k + 1, x1, x201000, x202000, x202001, x202002, x202003, x202004, x202005, x202006 => signalbenchlaw16_NrziIgnores.l0 k x1 (([] : List (S33))) 0 x201000 x202000 x202001 x202002 x202003 x202004 x202005 x202006
def signalbenchlaw16_NrziIgnores.l0 : Nat → List (S33) → List (S33) → Int → Bool → Int → Int → Int → Int → Int → ByteArray → Int → Option (Bool)
 | 0, _, _, _, _, _, _, _, _, _, _, _ => none
 | k + 1, x1, x7, x8, x201000, x202000, x202001, x202002, x202003, x202004, x202005, x202006 => if x8 < (x1.length : Int) then (if 0 ≤ x8 then ((some (([(⟨x202000, x202001, x202002, x202003, x202004, x202005, x202006⟩ : S33), (⟨(rd_T33 x1 x8).f0, (rd_T33 x1 x8).f1, (rd_T33 x1 x8).f2, (rd_T33 x1 x8).f3, (rd_T33 x1 x8).f4, (rd_T33 x1 x8).f5, (rd_T33 x1 x8).f6⟩ : S33)] : List (S33)) : List (S33))).bind fun y208 => (if x7.length + y208.length < 2199023255552 then (signalbenchlaw16_NrziIgnores.l0 k x1 (x7 ++ y208) (wrap64 (x8 + 1)) x201000 x202000 x202001 x202002 x202003 x202004 x202005 x202006) else (none))) else (none)) else (if x7.length < 2199023255552 then ((nrzi_Decode.f k x201000 (x7 ++ [(⟨x202000, x202001, x202002, x202003, x202004, x202005, x202006⟩ : S33)])).bind fun t217 => ((nrzi_Decode.f k x201000 x1).bind fun t220 => ((signalbenchref07_Same.f k t217 t220).bind fun t223 => (if t223 = true then ((signalbenchlaw16_awake.f k).bind fun t224 => (some t224)) else (some false))))) else (none))
end
def signalbenchlaw16_NrziIgnores.f (k : Nat) (a0_0 : Bool) (l1 : List (S33)) (a2_0 : Int) (a2_1 : Int) (a2_2 : Int) (a2_3 : Int) (a2_4 : Int) (a2_5 : ByteArray) (a2_6 : Int) : Option (Bool) := (signalbenchlaw16_small.f k l1).bind fun t202 => (if t202 = true then (if (a2_5.size : Int) > 20 then (signalbenchlaw16_NrziIgnores.j0 k l1 true a0_0 a2_0 a2_1 a2_2 a2_3 a2_4 a2_5 a2_6) else (if a2_0 = 2 then (if a2_3 = 0 then (signalbenchlaw16_NrziIgnores.j0 k l1 (decide (a2_1 ≥ 0)) a0_0 a2_0 a2_1 a2_2 a2_3 a2_4 a2_5 a2_6) else (if a2_3 = 1 then (signalbenchlaw16_NrziIgnores.j0 k l1 (decide (a2_1 ≥ 0)) a0_0 a2_0 a2_1 a2_2 a2_3 a2_4 a2_5 a2_6) else (signalbenchlaw16_NrziIgnores.j0 k l1 false a0_0 a2_0 a2_1 a2_2 a2_3 a2_4 a2_5 a2_6))) else (signalbenchlaw16_NrziIgnores.j0 k l1 false a0_0 a2_0 a2_1 a2_2 a2_3 a2_4 a2_5 a2_6))) else (signalbenchlaw16_NrziIgnores.j0 k l1 true a0_0 a2_0 a2_1 a2_2 a2_3 a2_4 a2_5 a2_6))
theorem signalbenchlaw16_NrziIgnores.mono_l : ∀ k, (∀ y0 y1 y2 y3 y4 y5 y6 y7 y8 y9, LeO (signalbenchlaw16_NrziIgnores.j0 k y0 y1 y2 y3 y4 y5 y6 y7 y8 y9) (signalbenchlaw16_NrziIgnores.j0 (k + 1) y0 y1 y2 y3 y4 y5 y6 y7 y8 y9)) ∧ (∀ y0 y1 y2 y3 y4 y5 y6 y7 y8, LeO (signalbenchlaw16_NrziIgnores.j1 k y0 y1 y2 y3 y4 y5 y6 y7 y8) (signalbenchlaw16_NrziIgnores.j1 (k + 1) y0 y1 y2 y3 y4 y5 y6 y7 y8)) ∧ (∀ y0 y1 y2 y3 y4 y5 y6 y7 y8 y9 y10, LeO (signalbenchlaw16_NrziIgnores.l0 k y0 y1 y2 y3 y4 y5 y6 y7 y8 y9 y10) (signalbenchlaw16_NrziIgnores.l0 (k + 1) y0 y1 y2 y3 y4 y5 y6 y7 y8 y9 y10))
 | 0 => ⟨fun _ _ _ _ _ _ _ _ _ _ r h => by simp [signalbenchlaw16_NrziIgnores.j0] at h, fun _ _ _ _ _ _ _ _ _ r h => by simp [signalbenchlaw16_NrziIgnores.j1] at h, fun _ _ _ _ _ _ _ _ _ _ _ r h => by simp [signalbenchlaw16_NrziIgnores.l0] at h⟩
 | k + 1 => by
  obtain ⟨ih0, ih1, ih2⟩ := signalbenchlaw16_NrziIgnores.mono_l k
  refine ⟨?_, ?_, ?_⟩
  ·intro y0 y1 y2 y3 y4 y5 y6 y7 y8 y9
   unfold signalbenchlaw16_NrziIgnores.j0
   repeat' first
   | (with_reducible exact ih0 _ _ _ _ _ _ _ _ _ _)
   | (with_reducible exact ih1 _ _ _ _ _ _ _ _ _)
   | (with_reducible exact ih2 _ _ _ _ _ _ _ _ _ _ _)
   | (with_reducible exact nrzi_Decode.mono _ _ _)
   | (with_reducible exact signalbenchlaw16_awake.mono _)
   | (with_reducible exact signalbenchlaw16_small.mono _ _)
   | (with_reducible exact signalbenchref07_Same.mono _ _ _)
   | (with_reducible exact LeO.refl _)
   | (with_reducible exact LeO.none _)
   | (with_reducible refine LeO.ite ?_ ?_)
   | (with_reducible refine LeO.bind ?_ (fun _ => ?_))
   | exact ih0 _ _ _ _ _ _ _ _ _ _
   | exact ih1 _ _ _ _ _ _ _ _ _
   | exact ih2 _ _ _ _ _ _ _ _ _ _ _
   | exact nrzi_Decode.mono _ _ _
   | exact signalbenchlaw16_awake.mono _
   | exact signalbenchlaw16_small.mono _ _
   | exact signalbenchref07_Same.mono _ _ _
   | exact LeO.none _
   | refine LeO.ite ?_ ?_
   | refine LeO.bind ?_ (fun _ => ?_)
  ·intro y0 y1 y2 y3 y4 y5 y6 y7 y8
   unfold signalbenchlaw16_NrziIgnores.j1
   repeat' first
   | (with_reducible exact ih0 _ _ _ _ _ _ _ _ _ _)
   | (with_reducible exact ih1 _ _ _ _ _ _ _ _ _)
   | (with_reducible exact ih2 _ _ _ _ _ _ _ _ _ _ _)
   | (with_reducible exact nrzi_Decode.mono _ _ _)
   | (with_reducible exact signalbenchlaw16_awake.mono _)
   | (with_reducible exact signalbenchlaw16_small.mono _ _)
   | (with_reducible exact signalbenchref07_Same.mono _ _ _)
   | (with_reducible exact LeO.refl _)
   | (with_reducible exact LeO.none _)
   | (with_reducible refine LeO.ite ?_ ?_)
   | (with_reducible refine LeO.bind ?_ (fun _ => ?_))
   | exact ih0 _ _ _ _ _ _ _ _ _ _
   | exact ih1 _ _ _ _ _ _ _ _ _
   | exact ih2 _ _ _ _ _ _ _ _ _ _ _
   | exact nrzi_Decode.mono _ _ _
   | exact signalbenchlaw16_awake.mono _
   | exact signalbenchlaw16_small.mono _ _
   | exact signalbenchref07_Same.mono _ _ _
   | exact LeO.none _
   | refine LeO.ite ?_ ?_
   | refine LeO.bind ?_ (fun _ => ?_)
  ·intro y0 y1 y2 y3 y4 y5 y6 y7 y8 y9 y10
   unfold signalbenchlaw16_NrziIgnores.l0
   repeat' first
   | (with_reducible exact ih0 _ _ _ _ _ _ _ _ _ _)
   | (with_reducible exact ih1 _ _ _ _ _ _ _ _ _)
   | (with_reducible exact ih2 _ _ _ _ _ _ _ _ _ _ _)
   | (with_reducible exact nrzi_Decode.mono _ _ _)
   | (with_reducible exact signalbenchlaw16_awake.mono _)
   | (with_reducible exact signalbenchlaw16_small.mono _ _)
   | (with_reducible exact signalbenchref07_Same.mono _ _ _)
   | (with_reducible exact LeO.refl _)
   | (with_reducible exact LeO.none _)
   | (with_reducible refine LeO.ite ?_ ?_)
   | (with_reducible refine LeO.bind ?_ (fun _ => ?_))
   | exact ih0 _ _ _ _ _ _ _ _ _ _
   | exact ih1 _ _ _ _ _ _ _ _ _
   | exact ih2 _ _ _ _ _ _ _ _ _ _ _
   | exact nrzi_Decode.mono _ _ _
   | exact signalbenchlaw16_awake.mono _
   | exact signalbenchlaw16_small.mono _ _
   | exact signalbenchref07_Same.mono _ _ _
   | exact LeO.none _
   | refine LeO.ite ?_ ?_
   | refine LeO.bind ?_ (fun _ => ?_)
theorem signalbenchlaw16_NrziIgnores.mono : ∀ a0 a1 a2 a3 a4 a5 a6 a7 a8 k, LeO (signalbenchlaw16_NrziIgnores.f k a0 a1 a2 a3 a4 a5 a6 a7 a8) (signalbenchlaw16_NrziIgnores.f (k + 1) a0 a1 a2 a3 a4 a5 a6 a7 a8) := by
 intro a0 a1 a2 a3 a4 a5 a6 a7 a8 k
 obtain ⟨ih0, ih1, ih2⟩ := signalbenchlaw16_NrziIgnores.mono_l k
 unfold signalbenchlaw16_NrziIgnores.f
 repeat' first
   | (with_reducible exact ih0 _ _ _ _ _ _ _ _ _ _)
   | (with_reducible exact ih1 _ _ _ _ _ _ _ _ _)
   | (with_reducible exact ih2 _ _ _ _ _ _ _ _ _ _ _)
   | (with_reducible exact nrzi_Decode.mono _ _ _)
   | (with_reducible exact signalbenchlaw16_awake.mono _)
   | (with_reducible exact signalbenchlaw16_small.mono _ _)
   | (with_reducible exact signalbenchref07_Same.mono _ _ _)
   | (with_reducible exact LeO.refl _)
   | (with_reducible exact LeO.none _)
   | (with_reducible refine LeO.ite ?_ ?_)
   | (with_reducible refine LeO.bind ?_ (fun _ => ?_))
   | exact ih0 _ _ _ _ _ _ _ _ _ _
   | exact ih1 _ _ _ _ _ _ _ _ _
   | exact ih2 _ _ _ _ _ _ _ _ _ _ _
   | exact nrzi_Decode.mono _ _ _
   | exact signalbenchlaw16_awake.mono _
   | exact signalbenchlaw16_small.mono _ _
   | exact signalbenchref07_Same.mono _ _ _
   | exact LeO.none _
   | refine LeO.ite ?_ ?_
   | refine LeO.bind ?_ (fun _ => ?_)
def signalbenchlaw16_NrziIgnores.T7 : Bool × List (List Nat × List Nat) := (true, [([], []), ([], []), ([], []), ([], []), ([2, 3], [2, 3]), ([4], [4]), ([1, 5], [1, 5]), ([0, 6], [0, 6]), ([7, 7, 0, 1, 2, 3, 4, 5, 6, 7], [0, 7])])
def signalbenchlaw16_NrziIgnores.B7 : List Nat := [0, 0, 0, 0, 12, 28, 62, 127, 255]
theorem signalbenchlaw16_NrziIgnores.tab7 : rtab .any (opsOf Try.f6 7) = signalbenchlaw16_NrziIgnores.T7 := by kernel_rfl
theorem signalbenchlaw16_NrziIgnores.bits7 : waitsOk signalbenchlaw16_NrziIgnores.T7.2 signalbenchlaw16_NrziIgnores.B7 = true := by kernel_rfl
def signalbenchlaw16_NrziIgnores.T8 : Bool × List (List Nat × List Nat) := (true, [([], []), ([], []), ([], []), ([2], [2]), ([1, 3], [1, 3]), ([0, 4, 4], [0, 4]), ([], []), ([], []), ([6, 7, 5], [6, 7]), ([5, 8, 8], [5, 8]), ([9, 9], [9]), ([10, 10], [10]), ([10, 11], [10, 11]), ([12, 11, 0, 1, 2, 3, 4, 5, 6, 7, 8, 9, 10, 11, 12], [12])])
def signalbenchlaw16_NrziIgnores.B8 : List Nat := [0, 0, 0, 4, 14, 31, 0, 0, 255, 511, 1023, 2047, 4095, 8191]
theorem signalbenchlaw16_NrziIgnores.tab8 : rtab .any (opsOf Try.f6 8) = signalbenchlaw16_NrziIgnores.T8 := by kernel_rfl
theorem signalbenchlaw16_NrziIgnores.bits8 : waitsOk signalbenchlaw16_NrziIgnores.T8.2 signalbenchlaw16_NrziIgnores.B8 = true := by kernel_rfl
set_option maxHeartbeats 8000000 in
set_option maxRecDepth 100000 in
theorem signalbenchlaw16_NrziIgnores.calls (k : Nat) (a0_0 : Bool) (A1 : Option Addr) (c1 : Nat) (l1 : List (S33)) (a2_0 : Int) (a2_1 : Int) (a2_2 : Int) (a2_3 : Int) (a2_4 : Int) (a2_5 : ByteArray) (a2_6 : Int) (r : Bool) (w : World) (hr1 : Kd.C k33 w A1 l1.length l1) (hc1 : l1.length ≤ c1) (h : signalbenchlaw16_NrziIgnores.f k a0_0 l1 a2_0 a2_1 a2_2 a2_3 a2_4 a2_5 a2_6 = some r) :
  Calls Try.prog 6 #[.agg #[.bool a0_0], .slice A1 l1.length c1, .agg #[.int .i64 a2_0, .int .i64 a2_1, .int .i64 a2_2, .int .i64 a2_3, .int .i64 a2_4, .string a2_5, .int .i64 a2_6]] w fun e w' => e = .returned (.bool r) ∧ Below w.heap.size w w' := by
 have hu23 := Try.underlying23
 have hu33 := Try.underlying33
 have HR1 := Aside0.mk hr1
 have HC1 := Aside0.mk hc1
 clear hr1 hc1
 have HB := Aside0.mk (Below.refl w.heap.size w)
 have H : ((signalbenchlaw16_small.f k l1).bind fun t202 => (if t202 = true then (if (a2_5.size : Int) > 20 then (signalbenchlaw16_NrziIgnores.j0 k l1 true a0_0 a2_0 a2_1 a2_2 a2_3 a2_4 a2_5 a2_6) else (if a2_0 = 2 then (if a2_3 = 0 then (signalbenchlaw16_NrziIgnores.j0 k l1 (decide (a2_1 ≥ 0)) a0_0 a2_0 a2_1 a2_2 a2_3 a2_4 a2_5 a2_6) else (if a2_3 = 1 then (signalbenchlaw16_NrziIgnores.j0 k l1 (decide (a2_1 ≥ 0)) a0_0 a2_0 a2_1 a2_2 a2_3 a2_4 a2_5 a2_6) else (signalbenchlaw16_NrziIgnores.j0 k l1 false a0_0 a2_0 a2_1 a2_2 a2_3 a2_4 a2_5 a2_6))) else (signalbenchlaw16_NrziIgnores.j0 k l1 false a0_0 a2_0 a2_1 a2_2 a2_3 a2_4 a2_5 a2_6))) else (signalbenchlaw16_NrziIgnores.j0 k l1 true a0_0 a2_0 a2_1 a2_2 a2_3 a2_4 a2_5 a2_6))) = some r := h
 clear h
 have HC4 := Aside0.mk H
 clear H
 go_enter Try.func6, Try.ntmps6
 go_upto_region 1 with (first | ((with_reducible refine gate_dst (N := 3) rfl ?_); (try (refine gate_guard (by first | rfl | (go_simp; done)) ?_; dsimp only)); refine box_event ?hg (N := 3) ?hd (cs := #[.bool a0_0]) (t := 23) ?hr ?_; (case hd => rfl); (case hg => rfl); (case hr => first | (go_simp; done) | (go_simp; rfl)); intro gb200 hg w5 hbox hb; have n0_ := Aside0.mk (below_step (hbw HB.out) hb); have n1_ := Aside0.mk (hbox); have n2_ := Aside0.mk ((by rw [hg]; exact (below_size (hbw HB.out)) : w.heap.size ≤ gb200)); have n3_ := Aside0.mk ((by rw [hg]; exact (below_size (hbw HB.out)) : w.heap.size ≤ gb200)); clear HB; have HB := n0_; have BK200 := n1_; have GW200 := n2_; have GE200 := n3_; clear n0_ n1_ n2_ n3_; clear hb hbox hg) | ((with_reducible refine gate_dst (N := 5) rfl ?_); (try (refine gate_guard (by first | rfl | (go_simp; done)) ?_; dsimp only)); refine box_event ?hg (N := 5) ?hd (cs := #[.int .i64 a2_0, .int .i64 a2_1, .int .i64 a2_2, .int .i64 a2_3, .int .i64 a2_4, .string a2_5, .int .i64 a2_6]) (t := 33) ?hr ?_; (case hd => rfl); (case hg => rfl); (case hr => first | (go_simp; done) | (go_simp; rfl)); intro gb201 hg w6 hbox hb; have n0_ := Aside0.mk (blkb BK200.out hb); have n1_ := Aside0.mk (below_step (hbw HB.out) hb); have n2_ := Aside0.mk (hbox); have n3_ := Aside0.mk ((by rw [hg]; exact (below_size (hbw HB.out)) : w.heap.size ≤ gb201)); have n4_ := Aside0.mk ((by rw [hg]; exact (below_size (hbw HB.out)) : w.heap.size ≤ gb201)); have n5_ := Aside0.mk ((by rw [hg]; exact Nat.ne_of_lt (blkl BK200.out) : gb200 ≠ gb201)); have n6_ := Aside0.mk ((by rw [hg]; exact Nat.ne_of_gt (blkl BK200.out) : gb201 ≠ gb200)); clear BK200; clear HB; have BK200 := n0_; have HB := n1_; have BK201 := n2_; have GW201 := n3_; have GE201 := n4_; have NB200_201 := n5_; have NB201_200 := n6_; clear n0_ n1_ n2_ n3_ n4_ n5_ n6_; clear hb hbox hg))
 (try simp only [Act.put, List.setIfInBounds_toArray, List.set_cons_zero, List.set_cons_succ])
 go_cut [37] (fun v37 wc => ∃ (kq : Nat) (x37_3 : Bool), v37 = .bool x37_3 ∧ Aside0 (signalbenchlaw16_NrziIgnores.j0 kq l1 x37_3 a0_0 a2_0 a2_1 a2_2 a2_3 a2_4 a2_5 a2_6 = some r) ∧ Aside0 (kq ≤ k) ∧ Aside0 (wc.heap[gb200]? = some (.cells #[.bool a0_0] 23 (0, 0))) ∧ Aside0 (wc.heap[gb201]? = some (.cells #[.int .i64 a2_0, .int .i64 a2_1, .int .i64 a2_2, .int .i64 a2_3, .int .i64 a2_4, .string a2_5, .int .i64 a2_6] 33 (0, 0))) ∧ Aside0 (Below w.heap.size w wc))
 case first =>
  have H := HC4.out
  clear HC4
  replace H := Option.bind_eq_some_iff.mp H
  obtain ⟨t202, A70, H⟩ := H
  replace H : (if t202 = true then (if (a2_5.size : Int) > 20 then (signalbenchlaw16_NrziIgnores.j0 k l1 true a0_0 a2_0 a2_1 a2_2 a2_3 a2_4 a2_5 a2_6) else (if a2_0 = 2 then (if a2_3 = 0 then (signalbenchlaw16_NrziIgnores.j0 k l1 (decide (a2_1 ≥ 0)) a0_0 a2_0 a2_1 a2_2 a2_3 a2_4 a2_5 a2_6) else (if a2_3 = 1 then (signalbenchlaw16_NrziIgnores.j0 k l1 (decide (a2_1 ≥ 0)) a0_0 a2_0 a2_1 a2_2 a2_3 a2_4 a2_5 a2_6) else (signalbenchlaw16_NrziIgnores.j0 k l1 false a0_0 a2_0 a2_1 a2_2 a2_3 a2_4 a2_5 a2_6))) else (signalbenchlaw16_NrziIgnores.j0 k l1 false a0_0 a2_0 a2_1 a2_2 a2_3 a2_4 a2_5 a2_6))) else (signalbenchlaw16_NrziIgnores.j0 k l1 true a0_0 a2_0 a2_1 a2_2 a2_3 a2_4 a2_5 a2_6)) = some r := H
  have A7 := Aside0.mk A70
  clear A70
  by_cases c8 : t202 = true
  ·subst c8
   have H1 : (if (a2_5.size : Int) > 20 then (signalbenchlaw16_NrziIgnores.j0 k l1 true a0_0 a2_0 a2_1 a2_2 a2_3 a2_4 a2_5 a2_6) else (if a2_0 = 2 then (if a2_3 = 0 then (signalbenchlaw16_NrziIgnores.j0 k l1 (decide (a2_1 ≥ 0)) a0_0 a2_0 a2_1 a2_2 a2_3 a2_4 a2_5 a2_6) else (if a2_3 = 1 then (signalbenchlaw16_NrziIgnores.j0 k l1 (decide (a2_1 ≥ 0)) a0_0 a2_0 a2_1 a2_2 a2_3 a2_4 a2_5 a2_6) else (signalbenchlaw16_NrziIgnores.j0 k l1 false a0_0 a2_0 a2_1 a2_2 a2_3 a2_4 a2_5 a2_6))) else (signalbenchlaw16_NrziIgnores.j0 k l1 false a0_0 a2_0 a2_1 a2_2 a2_3 a2_4 a2_5 a2_6))) = some r := by rw [if_pos rfl] at H; exact H
   clear H
   have H := H1
   clear H1
   by_cases c9 : (a2_5.size : Int) > 20
   ·rw [if_pos c9] at H
    have c9b0 : decide (20 < (a2_5.size : Int)) = true := decide_eq_true c9
    have c9b1 : decide (20 < a2_5.size) = true := decide_eq_true (by omega)
    clear c9
    (first | rw [c9b0] | (simp only [i64_w, i32_w]; rw [c9b0]) | skip)
    have H' := Aside0.mk H
    clear H
    go_wp2_with (first | ((with_reducible refine gate_callee (f := 8) rfl ?_); refine goesL_ (some 10) rfl rfl Try.func8 (by kernel_rfl) rfl #[.slice A1 l1.length c1] rfl (by (try simp only [List.map_toArray, List.map_cons, List.map_nil]); first | done | rfl | (simp only [List.length_drop, List.length_take]; rfl)) ?_; (with_reducible refine (signalbenchlaw16_small.calls k _ _ l1 true _ ?side1 ?side2 A7.out).mono ?_); (case side1 => repeat (first | exact (Kd.C_below HR1.out HB.out) | (with_reducible refine Kd.C_alloc ?_ _) | (with_reducible refine Kd.C_drewN ?_ _) | (with_reducible refine Kd.C_drew ?_))); (case side2 => exact HC1.out); rintro e w' ⟨rfl, ⟨nd, rfl⟩⟩; refine ⟨_, rfl, ?_⟩; have hnb10 := NB201_200.out; have hnc10 := NB200_201.out; have hcz11_0 : w6.cell? ⟨gb201, 0, none⟩ = some (.int .i64 a2_0) := (blk_cell BK201.out 0).trans rfl; have hcz11_1 : w6.cell? ⟨gb201, 1, none⟩ = some (.int .i64 a2_1) := (blk_cell BK201.out 1).trans rfl; have hcz11_2 : w6.cell? ⟨gb201, 2, none⟩ = some (.int .i64 a2_2) := (blk_cell BK201.out 2).trans rfl; have hcz11_3 : w6.cell? ⟨gb201, 3, none⟩ = some (.int .i64 a2_3) := (blk_cell BK201.out 3).trans rfl; have hcz11_4 : w6.cell? ⟨gb201, 4, none⟩ = some (.int .i64 a2_4) := (blk_cell BK201.out 4).trans rfl; have hcz11_5 : w6.cell? ⟨gb201, 5, none⟩ = some (.string a2_5) := (blk_cell BK201.out 5).trans rfl; have hcz11_6 : w6.cell? ⟨gb201, 6, none⟩ = some (.int .i64 a2_6) := (blk_cell BK201.out 6).trans rfl; have hfz11_0 := blk_frozen BK201.out 0; have hfz11_1 := blk_frozen BK201.out 1; have hfz11_2 := blk_frozen BK201.out 2; have hfz11_3 := blk_frozen BK201.out 3; have hfz11_4 := blk_frozen BK201.out 4; have hfz11_5 := blk_frozen BK201.out 5; have hfz11_6 := blk_frozen BK201.out 6))
    go_meet
    case rel => exact ⟨_, (true), (by first | rfl | (simp; done) | (simp [*]; done)), H', ⟨by first | omega | exact Nat.le_refl _⟩, ⟨by (with_reducible repeat (first | refine blk_drewN ?_ _ | refine blk_drew ?_ | refine blk_alloc ?_ _)); exact BK200.out⟩, ⟨by (with_reducible repeat (first | refine blk_drewN ?_ _ | refine blk_drew ?_ | refine blk_alloc ?_ _)); exact BK201.out⟩, ⟨by repeat (first | (with_reducible first | exact HB.out | apply below_alloc | apply pw_below_drewN | apply below_drew1 | refine below_set ?_ GE200.out | refine below_set ?_ GE201.out) | exact HB.out)⟩⟩
   ·rw [if_neg c9] at H
    have c9b0 : decide (20 < (a2_5.size : Int)) = false := decide_eq_false c9
    have c9b1 : decide (20 < a2_5.size) = false := decide_eq_false (by omega)
    clear c9
    (first | rw [c9b0] | (simp only [i64_w, i32_w]; rw [c9b0]) | skip)
    by_cases c12 : a2_0 = 2
    ·rw [if_pos c12] at H
     have c12b0 : (a2_0 == 2) = true := beq_iff_eq.mpr c12
     have c12b1 : (a2_0 != 2) = false := bne_eq_false_iff_eq.mpr c12
     clear c12
     by_cases c13 : a2_3 = 0
     ·rw [if_pos c13] at H
      have c13b0 : (a2_3 == 0) = true := beq_iff_eq.mpr c13
      have c13b1 : (a2_3 != 0) = false := bne_eq_false_iff_eq.mpr c13
      clear c13
      have H' := Aside0.mk H
      clear H
      go_wp2_with (first | ((with_reducible refine gate_callee (f := 8) rfl ?_); refine goesL_ (some 10) rfl rfl Try.func8 (by kernel_rfl) rfl #[.slice A1 l1.length c1] rfl (by (try simp only [List.map_toArray, List.map_cons, List.map_nil]); first | done | rfl | (simp only [List.length_drop, List.length_take]; rfl)) ?_; (with_reducible refine (signalbenchlaw16_small.calls k _ _ l1 true _ ?side1 ?side2 A7.out).mono ?_); (case side1 => repeat (first | exact (Kd.C_below HR1.out HB.out) | (with_reducible refine Kd.C_alloc ?_ _) | (with_reducible refine Kd.C_drewN ?_ _) | (with_reducible refine Kd.C_drew ?_))); (case side2 => exact HC1.out); rintro e w' ⟨rfl, ⟨nd, rfl⟩⟩; refine ⟨_, rfl, ?_⟩; have hnb14 := NB201_200.out; have hnc14 := NB200_201.out; have hcz15_0 : w6.cell? ⟨gb201, 0, none⟩ = some (.int .i64 a2_0) := (blk_cell BK201.out 0).trans rfl; have hcz15_1 : w6.cell? ⟨gb201, 1, none⟩ = some (.int .i64 a2_1) := (blk_cell BK201.out 1).trans rfl; have hcz15_2 : w6.cell? ⟨gb201, 2, none⟩ = some (.int .i64 a2_2) := (blk_cell BK201.out 2).trans rfl; have hcz15_3 : w6.cell? ⟨gb201, 3, none⟩ = some (.int .i64 a2_3) := (blk_cell BK201.out 3).trans rfl; have hcz15_4 : w6.cell? ⟨gb201, 4, none⟩ = some (.int .i64 a2_4) := (blk_cell BK201.out 4).trans rfl; have hcz15_5 : w6.cell? ⟨gb201, 5, none⟩ = some (.string a2_5) := (blk_cell BK201.out 5).trans rfl; have hcz15_6 : w6.cell? ⟨gb201, 6, none⟩ = some (.int .i64 a2_6) := (blk_cell BK201.out 6).trans rfl; have hfz15_0 := blk_frozen BK201.out 0; have hfz15_1 := blk_frozen BK201.out 1; have hfz15_2 := blk_frozen BK201.out 2; have hfz15_3 := blk_frozen BK201.out 3; have hfz15_4 := blk_frozen BK201.out 4; have hfz15_5 := blk_frozen BK201.out 5; have hfz15_6 := blk_frozen BK201.out 6))
      go_meet
      case rel => exact ⟨_, (decide (a2_1 ≥ 0)), (by first | rfl | (simp; done) | (simp [*]; done)), H', ⟨by first | omega | exact Nat.le_refl _⟩, ⟨by (with_reducible repeat (first | refine blk_drewN ?_ _ | refine blk_drew ?_ | refine blk_alloc ?_ _)); exact BK200.out⟩, ⟨by (with_reducible repeat (first | refine blk_drewN ?_ _ | refine blk_drew ?_ | refine blk_alloc ?_ _)); exact BK201.out⟩, ⟨by repeat (first | (with_reducible first | exact HB.out | apply below_alloc | apply pw_below_drewN | apply below_drew1 | refine below_set ?_ GE200.out | refine below_set ?_ GE201.out) | exact HB.out)⟩⟩
     ·rw [if_neg c13] at H
      have c13b0 : (a2_3 == 0) = false := beq_eq_false_iff_ne.mpr c13
      have c13b1 : (a2_3 != 0) = true := bne_iff_ne.mpr c13
      by_cases c16 : a2_3 = 1
      ·rw [if_pos c16] at H
       have c16b0 : (a2_3 == 1) = true := beq_iff_eq.mpr c16
       have c16b1 : (a2_3 != 1) = false := bne_eq_false_iff_eq.mpr c16
       clear c16
       have H' := Aside0.mk H
       clear H
       go_wp2_with (first | ((with_reducible refine gate_callee (f := 8) rfl ?_); refine goesL_ (some 10) rfl rfl Try.func8 (by kernel_rfl) rfl #[.slice A1 l1.length c1] rfl (by (try simp only [List.map_toArray, List.map_cons, List.map_nil]); first | done | rfl | (simp only [List.length_drop, List.length_take]; rfl)) ?_; (with_reducible refine (signalbenchlaw16_small.calls k _ _ l1 true _ ?side1 ?side2 A7.out).mono ?_); (case side1 => repeat (first | exact (Kd.C_below HR1.out HB.out) | (with_reducible refine Kd.C_alloc ?_ _) | (with_reducible refine Kd.C_drewN ?_ _) | (with_reducible refine Kd.C_drew ?_))); (case side2 => exact HC1.out); rintro e w' ⟨rfl, ⟨nd, rfl⟩⟩; refine ⟨_, rfl, ?_⟩; have hnb17 := NB201_200.out; have hnc17 := NB200_201.out; have hcz18_0 : w6.cell? ⟨gb201, 0, none⟩ = some (.int .i64 a2_0) := (blk_cell BK201.out 0).trans rfl; have hcz18_1 : w6.cell? ⟨gb201, 1, none⟩ = some (.int .i64 a2_1) := (blk_cell BK201.out 1).trans rfl; have hcz18_2 : w6.cell? ⟨gb201, 2, none⟩ = some (.int .i64 a2_2) := (blk_cell BK201.out 2).trans rfl; have hcz18_3 : w6.cell? ⟨gb201, 3, none⟩ = some (.int .i64 a2_3) := (blk_cell BK201.out 3).trans rfl; have hcz18_4 : w6.cell? ⟨gb201, 4, none⟩ = some (.int .i64 a2_4) := (blk_cell BK201.out 4).trans rfl; have hcz18_5 : w6.cell? ⟨gb201, 5, none⟩ = some (.string a2_5) := (blk_cell BK201.out 5).trans rfl; have hcz18_6 : w6.cell? ⟨gb201, 6, none⟩ = some (.int .i64 a2_6) := (blk_cell BK201.out 6).trans rfl; have hfz18_0 := blk_frozen BK201.out 0; have hfz18_1 := blk_frozen BK201.out 1; have hfz18_2 := blk_frozen BK201.out 2; have hfz18_3 := blk_frozen BK201.out 3; have hfz18_4 := blk_frozen BK201.out 4; have hfz18_5 := blk_frozen BK201.out 5; have hfz18_6 := blk_frozen BK201.out 6))
       go_meet
       case rel => exact ⟨_, (decide (a2_1 ≥ 0)), (by first | rfl | (simp; done) | (simp [*]; done)), H', ⟨by first | omega | exact Nat.le_refl _⟩, ⟨by (with_reducible repeat (first | refine blk_drewN ?_ _ | refine blk_drew ?_ | refine blk_alloc ?_ _)); exact BK200.out⟩, ⟨by (with_reducible repeat (first | refine blk_drewN ?_ _ | refine blk_drew ?_ | refine blk_alloc ?_ _)); exact BK201.out⟩, ⟨by repeat (first | (with_reducible first | exact HB.out | apply below_alloc | apply pw_below_drewN | apply below_drew1 | refine below_set ?_ GE200.out | refine below_set ?_ GE201.out) | exact HB.out)⟩⟩
      ·rw [if_neg c16] at H
       have c16b0 : (a2_3 == 1) = false := beq_eq_false_iff_ne.mpr c16
       have c16b1 : (a2_3 != 1) = true := bne_iff_ne.mpr c16
       have H' := Aside0.mk H
       clear H
       go_wp2_with (first | ((with_reducible refine gate_callee (f := 8) rfl ?_); refine goesL_ (some 10) rfl rfl Try.func8 (by kernel_rfl) rfl #[.slice A1 l1.length c1] rfl (by (try simp only [List.map_toArray, List.map_cons, List.map_nil]); first | done | rfl | (simp only [List.length_drop, List.length_take]; rfl)) ?_; (with_reducible refine (signalbenchlaw16_small.calls k _ _ l1 true _ ?side1 ?side2 A7.out).mono ?_); (case side1 => repeat (first | exact (Kd.C_below HR1.out HB.out) | (with_reducible refine Kd.C_alloc ?_ _) | (with_reducible refine Kd.C_drewN ?_ _) | (with_reducible refine Kd.C_drew ?_))); (case side2 => exact HC1.out); rintro e w' ⟨rfl, ⟨nd, rfl⟩⟩; refine ⟨_, rfl, ?_⟩; have hnb19 := NB201_200.out; have hnc19 := NB200_201.out; have hcz20_0 : w6.cell? ⟨gb201, 0, none⟩ = some (.int .i64 a2_0) := (blk_cell BK201.out 0).trans rfl; have hcz20_1 : w6.cell? ⟨gb201, 1, none⟩ = some (.int .i64 a2_1) := (blk_cell BK201.out 1).trans rfl; have hcz20_2 : w6.cell? ⟨gb201, 2, none⟩ = some (.int .i64 a2_2) := (blk_cell BK201.out 2).trans rfl; have hcz20_3 : w6.cell? ⟨gb201, 3, none⟩ = some (.int .i64 a2_3) := (blk_cell BK201.out 3).trans rfl; have hcz20_4 : w6.cell? ⟨gb201, 4, none⟩ = some (.int .i64 a2_4) := (blk_cell BK201.out 4).trans rfl; have hcz20_5 : w6.cell? ⟨gb201, 5, none⟩ = some (.string a2_5) := (blk_cell BK201.out 5).trans rfl; have hcz20_6 : w6.cell? ⟨gb201, 6, none⟩ = some (.int .i64 a2_6) := (blk_cell BK201.out 6).trans rfl; have hfz20_0 := blk_frozen BK201.out 0; have hfz20_1 := blk_frozen BK201.out 1; have hfz20_2 := blk_frozen BK201.out 2; have hfz20_3 := blk_frozen BK201.out 3; have hfz20_4 := blk_frozen BK201.out 4; have hfz20_5 := blk_frozen BK201.out 5; have hfz20_6 := blk_frozen BK201.out 6))
       go_meet
       case rel => exact ⟨_, (false), (by first | rfl | (simp; done) | (simp [*]; done)), H', ⟨by first | omega | exact Nat.le_refl _⟩, ⟨by (with_reducible repeat (first | refine blk_drewN ?_ _ | refine blk_drew ?_ | refine blk_alloc ?_ _)); exact BK200.out⟩, ⟨by (with_reducible repeat (first | refine blk_drewN ?_ _ | refine blk_drew ?_ | refine blk_alloc ?_ _)); exact BK201.out⟩, ⟨by repeat (first | (with_reducible first | exact HB.out | apply below_alloc | apply pw_below_drewN | apply below_drew1 | refine below_set ?_ GE200.out | refine below_set ?_ GE201.out) | exact HB.out)⟩⟩
    ·rw [if_neg c12] at H
     have c12b0 : (a2_0 == 2) = false := beq_eq_false_iff_ne.mpr c12
     have c12b1 : (a2_0 != 2) = true := bne_iff_ne.mpr c12
     have H' := Aside0.mk H
     clear H
     go_wp2_with (first | ((with_reducible refine gate_callee (f := 8) rfl ?_); refine goesL_ (some 10) rfl rfl Try.func8 (by kernel_rfl) rfl #[.slice A1 l1.length c1] rfl (by (try simp only [List.map_toArray, List.map_cons, List.map_nil]); first | done | rfl | (simp only [List.length_drop, List.length_take]; rfl)) ?_; (with_reducible refine (signalbenchlaw16_small.calls k _ _ l1 true _ ?side1 ?side2 A7.out).mono ?_); (case side1 => repeat (first | exact (Kd.C_below HR1.out HB.out) | (with_reducible refine Kd.C_alloc ?_ _) | (with_reducible refine Kd.C_drewN ?_ _) | (with_reducible refine Kd.C_drew ?_))); (case side2 => exact HC1.out); rintro e w' ⟨rfl, ⟨nd, rfl⟩⟩; refine ⟨_, rfl, ?_⟩; have hnb21 := NB201_200.out; have hnc21 := NB200_201.out; have hcz22_0 : w6.cell? ⟨gb201, 0, none⟩ = some (.int .i64 a2_0) := (blk_cell BK201.out 0).trans rfl; have hcz22_1 : w6.cell? ⟨gb201, 1, none⟩ = some (.int .i64 a2_1) := (blk_cell BK201.out 1).trans rfl; have hcz22_2 : w6.cell? ⟨gb201, 2, none⟩ = some (.int .i64 a2_2) := (blk_cell BK201.out 2).trans rfl; have hcz22_3 : w6.cell? ⟨gb201, 3, none⟩ = some (.int .i64 a2_3) := (blk_cell BK201.out 3).trans rfl; have hcz22_4 : w6.cell? ⟨gb201, 4, none⟩ = some (.int .i64 a2_4) := (blk_cell BK201.out 4).trans rfl; have hcz22_5 : w6.cell? ⟨gb201, 5, none⟩ = some (.string a2_5) := (blk_cell BK201.out 5).trans rfl; have hcz22_6 : w6.cell? ⟨gb201, 6, none⟩ = some (.int .i64 a2_6) := (blk_cell BK201.out 6).trans rfl; have hfz22_0 := blk_frozen BK201.out 0; have hfz22_1 := blk_frozen BK201.out 1; have hfz22_2 := blk_frozen BK201.out 2; have hfz22_3 := blk_frozen BK201.out 3; have hfz22_4 := blk_frozen BK201.out 4; have hfz22_5 := blk_frozen BK201.out 5; have hfz22_6 := blk_frozen BK201.out 6))
     go_meet
     case rel => exact ⟨_, (false), (by first | rfl | (simp; done) | (simp [*]; done)), H', ⟨by first | omega | exact Nat.le_refl _⟩, ⟨by (with_reducible repeat (first | refine blk_drewN ?_ _ | refine blk_drew ?_ | refine blk_alloc ?_ _)); exact BK200.out⟩, ⟨by (with_reducible repeat (first | refine blk_drewN ?_ _ | refine blk_drew ?_ | refine blk_alloc ?_ _)); exact BK201.out⟩, ⟨by repeat (first | (with_reducible first | exact HB.out | apply below_alloc | apply pw_below_drewN | apply below_drew1 | refine below_set ?_ GE200.out | refine below_set ?_ GE201.out) | exact HB.out)⟩⟩
  ·replace c8 := Bool.eq_false_iff.mpr c8
   subst c8
   have H1 : (signalbenchlaw16_NrziIgnores.j0 k l1 true a0_0 a2_0 a2_1 a2_2 a2_3 a2_4 a2_5 a2_6) = some r := by rw [if_neg (show ¬ (false = true) by decide)] at H; exact H
   clear H
   have H := H1
   clear H1
   have H' := Aside0.mk H
   clear H
   go_wp2_with (first | ((with_reducible refine gate_callee (f := 8) rfl ?_); refine goesL_ (some 10) rfl rfl Try.func8 (by kernel_rfl) rfl #[.slice A1 l1.length c1] rfl (by (try simp only [List.map_toArray, List.map_cons, List.map_nil]); first | done | rfl | (simp only [List.length_drop, List.length_take]; rfl)) ?_; (with_reducible refine (signalbenchlaw16_small.calls k _ _ l1 false _ ?side1 ?side2 A7.out).mono ?_); (case side1 => repeat (first | exact (Kd.C_below HR1.out HB.out) | (with_reducible refine Kd.C_alloc ?_ _) | (with_reducible refine Kd.C_drewN ?_ _) | (with_reducible refine Kd.C_drew ?_))); (case side2 => exact HC1.out); rintro e w' ⟨rfl, ⟨nd, rfl⟩⟩; refine ⟨_, rfl, ?_⟩))
   go_meet
   case rel => exact ⟨_, (true), (by first | rfl | (simp; done) | (simp [*]; done)), H', ⟨by first | omega | exact Nat.le_refl _⟩, ⟨by (with_reducible repeat (first | refine blk_drewN ?_ _ | refine blk_drew ?_ | refine blk_alloc ?_ _)); exact BK200.out⟩, ⟨by (with_reducible repeat (first | refine blk_drewN ?_ _ | refine blk_drew ?_ | refine blk_alloc ?_ _)); exact BK201.out⟩, ⟨by repeat (first | (with_reducible first | exact HB.out | apply below_alloc | apply pw_below_drewN | apply below_drew1 | refine below_set ?_ GE200.out | refine below_set ?_ GE201.out) | exact HB.out)⟩⟩
 case rest =>
  clear HC4
  try clear c1
  try clear c2
  try clear p2
  try clear c6
  try clear c8
  try clear c9
  try clear c9b0
  try clear c9b1
  try clear c10
  try clear c12
  try clear c12b0
  try clear c12b1
  try clear c13
  try clear c13b0
  try clear c13b1
  try clear c14
  try clear c16
  try clear c16b0
  try clear c16b1
  try clear c17
  try clear c19
  try clear c21
  try clear hcz11_0
  try clear hcz11_1
  try clear hcz11_2
  try clear hcz11_3
  try clear hcz11_4
  try clear hcz11_5
  try clear hcz11_6
  try clear hcz15_0
  try clear hcz15_1
  try clear hcz15_2
  try clear hcz15_3
  try clear hcz15_4
  try clear hcz15_5
  try clear hcz15_6
  try clear hcz18_0
  try clear hcz18_1
  try clear hcz18_2
  try clear hcz18_3
  try clear hcz18_4
  try clear hcz18_5
  try clear hcz18_6
  try clear hcz20_0
  try clear hcz20_1
  try clear hcz20_2
  try clear hcz20_3
  try clear hcz20_4
  try clear hcz20_5
  try clear hcz20_6
  try clear hcz22_0
  try clear hcz22_1
  try clear hcz22_2
  try clear hcz22_3
  try clear hcz22_4
  try clear hcz22_5
  try clear hcz22_6
  try clear hfz11_0
  try clear hfz11_1
  try clear hfz11_2
  try clear hfz11_3
  try clear hfz11_4
  try clear hfz11_5
  try clear hfz11_6
  try clear hfz15_0
  try clear hfz15_1
  try clear hfz15_2
  try clear hfz15_3
  try clear hfz15_4
  try clear hfz15_5
  try clear hfz15_6
  try clear hfz18_0
  try clear hfz18_1
  try clear hfz18_2
  try clear hfz18_3
  try clear hfz18_4
  try clear hfz18_5
  try clear hfz18_6
  try clear hfz20_0
  try clear hfz20_1
  try clear hfz20_2
  try clear hfz20_3
  try clear hfz20_4
  try clear hfz20_5
  try clear hfz20_6
  try clear hfz22_0
  try clear hfz22_1
  try clear hfz22_2
  try clear hfz22_3
  try clear hfz22_4
  try clear hfz22_5
  try clear hfz22_6
  obtain ⟨kq, x37_3, rfl, HA, HJ3, BK200, BK201, HB⟩ := hcut
  cases kq with
  | zero => exact absurd HA.out (by simp [signalbenchlaw16_NrziIgnores.j0])
  | succ kj3 =>
   have H := HA.out
   clear HA
   simp only [signalbenchlaw16_NrziIgnores.j0] at H
   have HC23 := Aside0.mk H
   clear H
   go_upto_if 37 with (fail)
   go_cut [] (fun wc => ∃ (kq : Nat), Aside0 (signalbenchlaw16_NrziIgnores.j1 kq l1 a0_0 a2_0 a2_1 a2_2 a2_3 a2_4 a2_5 a2_6 = some r) ∧ Aside0 (kq ≤ kj3) ∧ Aside0 (wc.heap[gb200]? = some (.cells #[.bool a0_0] 23 (0, 0))) ∧ Aside0 (wc.heap[gb201]? = some (.cells #[.int .i64 a2_0, .int .i64 a2_1, .int .i64 a2_2, .int .i64 a2_3, .int .i64 a2_4, .string a2_5, .int .i64 a2_6] 33 (0, 0))) ∧ Aside0 (Below w.heap.size w wc))
   case first =>
    have H := HC23.out
    clear HC23
    by_cases c24 : x37_3 = true
    ·subst c24
     have H1 : ((signalbenchlaw16_awake.f kj3).bind fun t203 => (some t203)) = some r := by rw [if_pos rfl] at H; exact H
     clear H
     have H := H1
     clear H1
     replace H := Option.bind_eq_some_iff.mp H
     obtain ⟨t203, A250, H⟩ := H
     replace H : (some t203) = some r := H
     have A25 := Aside0.mk A250
     clear A250
     obtain rfl := Option.some.inj H
     go_wp2_with (first | ((with_reducible refine gate_callee (f := 9) rfl ?_); refine goesL_ (some 38) rfl rfl Try.func9 (by kernel_rfl) rfl #[] rfl (by (try simp only [List.map_toArray, List.map_cons, List.map_nil]); first | done | rfl | (simp only [List.length_drop, List.length_take]; rfl)) ?_; (with_reducible refine (signalbenchlaw16_awake.calls kj3  t203 _ A25.out).mono ?_); rintro e w26 ⟨rfl, hb⟩; refine ⟨_, rfl, ?_⟩; have n0_ := Aside0.mk (blkb BK200.out hb); have n1_ := Aside0.mk (blkb BK201.out hb); have n2_ := Aside0.mk (below_step (hbw HB.out) hb); clear BK200; clear BK201; clear HB; have BK200 := n0_; have BK201 := n1_; have HB := n2_; clear n0_ n1_ n2_; (try clear hb); (try clear hb2); (try clear hk); (try clear hi)))
     go_ret
     exact ⟨by first | rfl | (simp [errW_none, errW_some] <;> rfl) | (simp [*, errW_none, errW_some] <;> rfl), by repeat (first | (with_reducible first | exact HB.out | apply below_alloc | apply pw_below_drewN | apply below_drew1 | refine below_set ?_ GE200.out | refine below_set ?_ GE201.out) | exact HB.out)⟩
    ·replace c24 := Bool.eq_false_iff.mpr c24
     subst c24
     have H1 : (signalbenchlaw16_NrziIgnores.j1 kj3 l1 a0_0 a2_0 a2_1 a2_2 a2_3 a2_4 a2_5 a2_6) = some r := by rw [if_neg (show ¬ (false = true) by decide)] at H; exact H
     clear H
     have H := H1
     clear H1
     have H' := Aside0.mk H
     clear H
     go_wp2
     go_meet
     case rel => exact ⟨_, H', ⟨by have := HJ3.out; first | omega | exact Nat.le_refl _⟩, ⟨by (with_reducible repeat (first | refine blk_drewN ?_ _ | refine blk_drew ?_ | refine blk_alloc ?_ _)); exact BK200.out⟩, ⟨by (with_reducible repeat (first | refine blk_drewN ?_ _ | refine blk_drew ?_ | refine blk_alloc ?_ _)); exact BK201.out⟩, ⟨by repeat (first | (with_reducible first | exact HB.out | apply below_alloc | apply pw_below_drewN | apply below_drew1 | refine below_set ?_ GE200.out | refine below_set ?_ GE201.out) | exact HB.out)⟩⟩
   case rest =>
    clear HC23
    try clear c1
    try clear c2
    try clear p2
    try clear c6
    try clear c8
    try clear c9
    try clear c9b0
    try clear c9b1
    try clear c10
    try clear c12
    try clear c12b0
    try clear c12b1
    try clear c13
    try clear c13b0
    try clear c13b1
    try clear c14
    try clear c16
    try clear c16b0
    try clear c16b1
    try clear c17
    try clear c19
    try clear c21
    try clear c24
    try clear hcz11_0
    try clear hcz11_1
    try clear hcz11_2
    try clear hcz11_3
    try clear hcz11_4
    try clear hcz11_5
    try clear hcz11_6
    try clear hcz15_0
    try clear hcz15_1
    try clear hcz15_2
    try clear hcz15_3
    try clear hcz15_4
    try clear hcz15_5
    try clear hcz15_6
    try clear hcz18_0
    try clear hcz18_1
    try clear hcz18_2
    try clear hcz18_3
    try clear hcz18_4
    try clear hcz18_5
    try clear hcz18_6
    try clear hcz20_0
    try clear hcz20_1
    try clear hcz20_2
    try clear hcz20_3
    try clear hcz20_4
    try clear hcz20_5
    try clear hcz20_6
    try clear hcz22_0
    try clear hcz22_1
    try clear hcz22_2
    try clear hcz22_3
    try clear hcz22_4
    try clear hcz22_5
    try clear hcz22_6
    try clear hfz11_0
    try clear hfz11_1
    try clear hfz11_2
    try clear hfz11_3
    try clear hfz11_4
    try clear hfz11_5
    try clear hfz11_6
    try clear hfz15_0
    try clear hfz15_1
    try clear hfz15_2
    try clear hfz15_3
    try clear hfz15_4
    try clear hfz15_5
    try clear hfz15_6
    try clear hfz18_0
    try clear hfz18_1
    try clear hfz18_2
    try clear hfz18_3
    try clear hfz18_4
    try clear hfz18_5
    try clear hfz18_6
    try clear hfz20_0
    try clear hfz20_1
    try clear hfz20_2
    try clear hfz20_3
    try clear hfz20_4
    try clear hfz20_5
    try clear hfz20_6
    try clear hfz22_0
    try clear hfz22_1
    try clear hfz22_2
    try clear hfz22_3
    try clear hfz22_4
    try clear hfz22_5
    try clear hfz22_6
    try clear p2
    obtain ⟨kq, HA, HJ22, BK200, BK201, HB⟩ := hcut
    cases kq with
    | zero => exact absurd HA.out (by simp [signalbenchlaw16_NrziIgnores.j1])
    | succ kj22 =>
     have H := HA.out
     clear HA
     simp only [signalbenchlaw16_NrziIgnores.j1] at H
     obtain ⟨y204, hy204⟩ : ∃ y_ : List (S33), y_ = (([] : List (S33))) := ⟨_, rfl⟩
     replace H : (signalbenchlaw16_NrziIgnores.l0 kj22 l1 y204 0 a0_0 a2_0 a2_1 a2_2 a2_3 a2_4 a2_5 a2_6) = some r := by first | (rw [hy204]; with_reducible exact H) | (have H2_ := (Option.bind_some _ _).symm.trans H; rw [hy204]; with_reducible exact H2_) | (have H2_ := (Option.bind_some _ _).symm.trans H; with_reducible exact H2_) | with_reducible exact H | (rw [hy204]; exact H) | exact H
     have Ny204 := Aside0.mk hy204
     clear hy204
     have H' := Aside0.mk H
     clear H
     go_wp2_with (first | ((with_reducible refine gate_dst (N := 39) rfl ?_); (try (refine gate_guard (by first | rfl | (go_simp; done)) ?_; dsimp only)); refine Kd.R_lit k33 _ 33 ?hg (N := 39) ?hd (xs := ([] : List (S33))) (inner := []) (ok := fun _ => True) (okp := fun _ => True) ?hr ?hp (fun _ hk => hk) trivial (Below.refl _ _) (Nat.le_refl _) (by simp) ?_; (case hd => rfl); (case hg => rfl); (case hr => first | (go_simp; done) | (go_simp; rfl)); (case hp => exact (Reps.none _ _)); intro v205 w27 ho28 hb hg_ hnew_; clear hg_ hnew_; (first | rw [← Ny204.out] at ho28 | (simp only [Int.reduceToNat] at ho28; rw [← Ny204.out] at ho28)); have n0_ := Aside0.mk (Kd.R_lower (Kd.R_newB ho28 (g := gb201) (o := .cells #[.int .i64 a2_0, .int .i64 a2_1, .int .i64 a2_2, .int .i64 a2_3, .int .i64 a2_4, .string a2_5, .int .i64 a2_6] 33 (0, 0)) (bkw BK201.out)) (below_size (hbw HB.out))); have n1_ := Aside0.mk (blkb BK200.out hb); have n2_ := Aside0.mk (blkb BK201.out hb); have n3_ := Aside0.mk (below_step (hbw HB.out) hb); clear BK200; clear BK201; clear HB; have HO206 := n0_; have BK200 := n1_; have BK201 := n2_; have HB := n3_; clear n0_ n1_ n2_ n3_; clear hb ho28))
     go_loopg [7, 8] kj22 (fun kq v7 v8 w' => ∃ (x7_3 : List (S33)) (x8_3 : Int), v8 = .int .i64 x8_3 ∧ Aside0 (signalbenchlaw16_NrziIgnores.l0 kq l1 x7_3 x8_3 a0_0 a2_0 a2_1 a2_2 a2_3 a2_4 a2_5 a2_6 = some r) ∧ Aside0 (kq ≤ kj22) ∧ Aside0 (Kd.R k33 33 w' w.heap.size (fun k_ => k_ ≠ gb201) v7 x7_3) ∧ Aside0 (w'.heap[gb200]? = some (.cells #[.bool a0_0] 23 (0, 0))) ∧ Aside0 (w'.heap[gb201]? = some (.cells #[.int .i64 a2_0, .int .i64 a2_1, .int .i64 a2_2, .int .i64 a2_3, .int .i64 a2_4, .string a2_5, .int .i64 a2_6] 33 (0, 0))) ∧ Aside0 (Below w.heap.size w w'))
     case atStart => exact ⟨(y204), (0), (by first | rfl | (simp; done) | (simp [*]; done)), H', ⟨Nat.le_refl _⟩, ⟨by (with_reducible repeat (first | apply Kd.R_alloc | apply Kd.R_drewN | apply Kd.R_drew)); exact Kd.R_mono HO206.out (fun _ hk => hk.2)⟩, ⟨by (with_reducible repeat (first | refine blk_drewN ?_ _ | refine blk_drew ?_ | refine blk_alloc ?_ _)); exact BK200.out⟩, ⟨by (with_reducible repeat (first | refine blk_drewN ?_ _ | refine blk_drew ?_ | refine blk_alloc ?_ _)); exact BK201.out⟩, ⟨by repeat (first | (with_reducible first | exact HB.out | apply below_alloc | apply pw_below_drewN | apply below_drew1 | refine below_set ?_ GE200.out | refine below_set ?_ GE201.out) | exact HB.out)⟩⟩
     case round =>
      clear H'
      try clear c1
      try clear c2
      try clear p2
      try clear c6
      try clear c8
      try clear c9
      try clear c9b0
      try clear c9b1
      try clear c10
      try clear c12
      try clear c12b0
      try clear c12b1
      try clear c13
      try clear c13b0
      try clear c13b1
      try clear c14
      try clear c16
      try clear c16b0
      try clear c16b1
      try clear c17
      try clear c19
      try clear c21
      try clear c24
      try clear hcz11_0
      try clear hcz11_1
      try clear hcz11_2
      try clear hcz11_3
      try clear hcz11_4
      try clear hcz11_5
      try clear hcz11_6
      try clear hcz15_0
      try clear hcz15_1
      try clear hcz15_2
      try clear hcz15_3
      try clear hcz15_4
      try clear hcz15_5
      try clear hcz15_6
      try clear hcz18_0
      try clear hcz18_1
      try clear hcz18_2
      try clear hcz18_3
      try clear hcz18_4
      try clear hcz18_5
      try clear hcz18_6
      try clear hcz20_0
      try clear hcz20_1
      try clear hcz20_2
      try clear hcz20_3
      try clear hcz20_4
      try clear hcz20_5
      try clear hcz20_6
      try clear hcz22_0
      try clear hcz22_1
      try clear hcz22_2
      try clear hcz22_3
      try clear hcz22_4
      try clear hcz22_5
      try clear hcz22_6
      try clear hfz11_0
      try clear hfz11_1
      try clear hfz11_2
      try clear hfz11_3
      try clear hfz11_4
      try clear hfz11_5
      try clear hfz11_6
      try clear hfz15_0
      try clear hfz15_1
      try clear hfz15_2
      try clear hfz15_3
      try clear hfz15_4
      try clear hfz15_5
      try clear hfz15_6
      try clear hfz18_0
      try clear hfz18_1
      try clear hfz18_2
      try clear hfz18_3
      try clear hfz18_4
      try clear hfz18_5
      try clear hfz18_6
      try clear hfz20_0
      try clear hfz20_1
      try clear hfz20_2
      try clear hfz20_3
      try clear hfz20_4
      try clear hfz20_5
      try clear hfz20_6
      try clear hfz22_0
      try clear hfz22_1
      try clear hfz22_2
      try clear hfz22_3
      try clear hfz22_4
      try clear hfz22_5
      try clear hfz22_6
      try clear p2
      obtain ⟨x7_3, x8_3, rfl, HA, HK3, HO_7, BK200, BK201, HB⟩ := hrel
      cases gk with
      | zero => exact absurd HA.out (by simp [signalbenchlaw16_NrziIgnores.l0])
      | succ k3 =>
       have H := HA.out
       clear HA
       simp only [signalbenchlaw16_NrziIgnores.l0] at H
       by_cases c29 : x8_3 < (l1.length : Int)
       ·rw [if_pos c29] at H
        have c29b0 : decide (x8_3 < (l1.length : Int)) = true := decide_eq_true c29
        clear c29
        by_cases c30 : 0 ≤ x8_3
        ·rw [if_pos c30] at H
         have c30b0 : decide (0 ≤ x8_3) = true := decide_eq_true c30
         clear c30
         obtain ⟨y208, hy208⟩ : ∃ y_ : List (S33), y_ = (([(⟨a2_0, a2_1, a2_2, a2_3, a2_4, a2_5, a2_6⟩ : S33), (⟨(rd_T33 l1 x8_3).f0, (rd_T33 l1 x8_3).f1, (rd_T33 l1 x8_3).f2, (rd_T33 l1 x8_3).f3, (rd_T33 l1 x8_3).f4, (rd_T33 l1 x8_3).f5, (rd_T33 l1 x8_3).f6⟩ : S33)] : List (S33))) := ⟨_, rfl⟩
         replace H : (if x7_3.length + y208.length < 2199023255552 then (signalbenchlaw16_NrziIgnores.l0 k3 l1 (x7_3 ++ y208) (wrap64 (x8_3 + 1)) a0_0 a2_0 a2_1 a2_2 a2_3 a2_4 a2_5 a2_6) else (none)) = some r := by first | (rw [hy208]; with_reducible exact H) | (have H2_ := (Option.bind_some _ _).symm.trans H; rw [hy208]; with_reducible exact H2_) | (have H2_ := (Option.bind_some _ _).symm.trans H; with_reducible exact H2_) | with_reducible exact H | (rw [hy208]; exact H) | exact H
         have Ny208 := Aside0.mk hy208
         clear hy208
         by_cases c31 : x7_3.length + y208.length < 2199023255552
         ·rw [if_pos c31] at H
          have LMc31 := Aside0.mk c31
          clear c31
          obtain ⟨y211, hy211⟩ : ∃ y_ : List (S33), y_ = (x7_3 ++ y208) := ⟨_, rfl⟩
          replace H : (signalbenchlaw16_NrziIgnores.l0 k3 l1 y211 (wrap64 (x8_3 + 1)) a0_0 a2_0 a2_1 a2_2 a2_3 a2_4 a2_5 a2_6) = some r := by first | (rw [hy211]; with_reducible exact H) | (have H2_ := (Option.bind_some _ _).symm.trans H; rw [hy211]; with_reducible exact H2_) | (have H2_ := (Option.bind_some _ _).symm.trans H; with_reducible exact H2_) | with_reducible exact H | (rw [hy211]; exact H) | exact H
          have Ny211 := Aside0.mk hy211
          clear hy211
          have H' := Aside0.mk H
          clear H
          try go_wp2
          have n0_ := Aside0.mk (Kd.R_drew HO_7.out)
          have n1_ := Aside0.mk (blk_drew BK200.out)
          have n2_ := Aside0.mk (blk_drew BK201.out)
          have n3_ := Aside0.mk (below_drew1 HB.out)
          clear HO_7
          clear BK200
          clear BK201
          clear HB
          have HO_7 := n0_
          have BK200 := n1_
          have BK201 := n2_
          have HB := n3_
          clear n0_ n1_ n2_ n3_
          have p207 : 0 ≤ (x8_3 : Int) := of_decide_eq_true (by first | (with_reducible assumption) | assumption)
          have q207 : x8_3 < (l1.length : Int) := of_decide_eq_true (by first | (with_reducible assumption) | assumption)
          obtain ⟨ad207, e207, hx207_0, hx207_1, hx207_2, hx207_3, hx207_4, hx207_5, hx207_6⟩ := at_T33 HR1.out x8_3 p207 q207
          have hw207_6 := hx207_6
          have hw207_5 := hx207_5
          have hw207_4 := hx207_4
          have hw207_3 := hx207_3
          have hw207_2 := hx207_2
          have hw207_1 := hx207_1
          have hw207_0 := hx207_0
          cases e207
          replace hx207_0 := (HB.out.cell (World.block_lt_of_cell? w _ hx207_0)).trans hx207_0
          replace hx207_1 := (HB.out.cell (World.block_lt_of_cell? w _ hx207_1)).trans hx207_1
          replace hx207_2 := (HB.out.cell (World.block_lt_of_cell? w _ hx207_2)).trans hx207_2
          replace hx207_3 := (HB.out.cell (World.block_lt_of_cell? w _ hx207_3)).trans hx207_3
          replace hx207_4 := (HB.out.cell (World.block_lt_of_cell? w _ hx207_4)).trans hx207_4
          replace hx207_5 := (HB.out.cell (World.block_lt_of_cell? w _ hx207_5)).trans hx207_5
          replace hx207_6 := (HB.out.cell (World.block_lt_of_cell? w _ hx207_6)).trans hx207_6
          replace p207 := eq_true p207
          replace q207 := eq_true q207
          refine start_ (n := 9) (S := fun w' => w'.cell? ⟨gb201, 0, none⟩ = some (.int .i64 a2_0) ∧ w'.cell? ⟨gb201, 1, none⟩ = some (.int .i64 a2_1) ∧ w'.cell? ⟨gb201, 2, none⟩ = some (.int .i64 a2_2) ∧ w'.cell? ⟨gb201, 3, none⟩ = some (.int .i64 a2_3) ∧ w'.cell? ⟨gb201, 4, none⟩ = some (.int .i64 a2_4) ∧ w'.cell? ⟨gb201, 5, none⟩ = some (.string a2_5) ∧ w'.cell? ⟨gb201, 6, none⟩ = some (.int .i64 a2_6) ∧ w'.cell? (ad207.add ((x8_3).toNat * 7)) = some (.int .i64 ((rd_T33 l1 x8_3).f0)) ∧ w'.cell? ⟨(ad207.add ((x8_3).toNat * 7)).block, (ad207.add ((x8_3).toNat * 7)).off + 1, none⟩ = some (.int .i64 ((rd_T33 l1 x8_3).f1)) ∧ w'.cell? ⟨(ad207.add ((x8_3).toNat * 7)).block, (ad207.add ((x8_3).toNat * 7)).off + 2, none⟩ = some (.int .i64 ((rd_T33 l1 x8_3).f2)) ∧ w'.cell? ⟨(ad207.add ((x8_3).toNat * 7)).block, (ad207.add ((x8_3).toNat * 7)).off + 3, none⟩ = some (.int .i64 ((rd_T33 l1 x8_3).f3)) ∧ w'.cell? ⟨(ad207.add ((x8_3).toNat * 7)).block, (ad207.add ((x8_3).toNat * 7)).off + 4, none⟩ = some (.int .i64 ((rd_T33 l1 x8_3).f4)) ∧ w'.cell? ⟨(ad207.add ((x8_3).toNat * 7)).block, (ad207.add ((x8_3).toNat * 7)).off + 5, none⟩ = some (.string ((rd_T33 l1 x8_3).f5)) ∧ w'.cell? ⟨(ad207.add ((x8_3).toNat * 7)).block, (ad207.add ((x8_3).toNat * 7)).off + 6, none⟩ = some (.int .i64 ((rd_T33 l1 x8_3).f6))) (ds := []) #[false, false, false, false, false, false, false, false, false] (by kernel_rfl) rfl rfl ⟨(blk_cell BK201.out 0).trans rfl, (blk_cell BK201.out 1).trans rfl, (blk_cell BK201.out 2).trans rfl, (blk_cell BK201.out 3).trans rfl, (blk_cell BK201.out 4).trans rfl, (blk_cell BK201.out 5).trans rfl, (blk_cell BK201.out 6).trans rfl, ((HB.out.cell (World.block_lt_of_cell? w _ hw207_0)).trans hw207_0), ((HB.out.cell (World.block_lt_of_cell? w _ hw207_1)).trans hw207_1), ((HB.out.cell (World.block_lt_of_cell? w _ hw207_2)).trans hw207_2), ((HB.out.cell (World.block_lt_of_cell? w _ hw207_3)).trans hw207_3), ((HB.out.cell (World.block_lt_of_cell? w _ hw207_4)).trans hw207_4), ((HB.out.cell (World.block_lt_of_cell? w _ hw207_5)).trans hw207_5), ((HB.out.cell (World.block_lt_of_cell? w _ hw207_6)).trans hw207_6)⟩ (fun hHeld => ?_); refine with_tabW signalbenchlaw16_NrziIgnores.tab7 signalbenchlaw16_NrziIgnores.bits7 (fun HT_ HW_ => ?_)
          generalize wr.drew = w32 at HO_7 BK200 BK201 HB hx207_0 hx207_1 hx207_2 hx207_3 hx207_4 hx207_5 hx207_6 hHeld ⊢
          refine pstep 0 (some 46) #[true, false, false, false, false, false, false, false, false] HT_.out ?_
          refine pstep 2 (some 48) #[true, false, true, false, false, false, false, false, false] HT_.out ?_
          refine pstep 3 (some 49) #[true, false, true, true, false, false, false, false, false] HT_.out ?_
          refine pstep 4 (some 50) #[true, false, true, true, true, false, false, false, false] HT_.out ?_
          refine take_ (i := 1) (N := some 47) (v := ?_) (a' := ?_) #[true, true, true, true, true, false, false, false, false] rfl rfl (take_ofW HT_.out HW_.out (by kernel_rfl)) (fun _ _ _ h => h) (Or.inl ⟨by rfl, ?_⟩) hHeld ?_ ?_
          rotate_left
          ·rintro w' ⟨s0, s1, s2, s3, s4, s5, s6, s7, s8, s9, s10, s11, s12, s13⟩
           go_simp
           with_reducible rfl
          rotate_left
          ·simp only [Act.put, nrm]
           rfl
          refine take_ (i := 5) (N := some 51) (v := ?_) (a' := ?_) #[true, true, true, true, true, true, false, false, false] rfl rfl (take_ofW HT_.out HW_.out (by kernel_rfl)) (fun _ _ _ h => h) (Or.inl ⟨by rfl, ?_⟩) hHeld ?_ ?_
          rotate_left
          ·rintro w' ⟨s0, s1, s2, s3, s4, s5, s6, s7, s8, s9, s10, s11, s12, s13⟩
           go_simp
           with_reducible rfl
          rotate_left
          ·simp only [Act.put, nrm]
           rfl
          refine one_ (i := 6) (N := some 52) #[true, true, true, true, true, true, true, false, false] rfl rfl (one_of HT_.out (by kernel_rfl)) (by decide) (fun K hK => ?_)
          refine Kd.R_lit_step k33 _ 33 ?hg (N := 52) ?hd (xs := ([(⟨a2_0, a2_1, a2_2, a2_3, a2_4, a2_5, a2_6⟩ : S33), (⟨(rd_T33 l1 x8_3).f0, (rd_T33 l1 x8_3).f1, (rd_T33 l1 x8_3).f2, (rd_T33 l1 x8_3).f3, (rd_T33 l1 x8_3).f4, (rd_T33 l1 x8_3).f5, (rd_T33 l1 x8_3).f6⟩ : S33)] : List (S33))) (inner := [.int .i64 a2_0, .int .i64 a2_1, .int .i64 a2_2, .int .i64 a2_3, .int .i64 a2_4, .string a2_5, .int .i64 a2_6, .int .i64 ((rd_T33 l1 x8_3).f0), .int .i64 ((rd_T33 l1 x8_3).f1), .int .i64 ((rd_T33 l1 x8_3).f2), .int .i64 ((rd_T33 l1 x8_3).f3), .int .i64 ((rd_T33 l1 x8_3).f4), .string ((rd_T33 l1 x8_3).f5), .int .i64 ((rd_T33 l1 x8_3).f6)]) (ok := fun _ => True) (okp := fun _ => True) ?hr ?hp (fun _ hk => hk) trivial (Below.refl _ _) (Nat.le_refl _) (by simp) ?_; (case hd => rfl); (case hg => rfl); (case hr => first | (go_simp; done) | (go_simp; rfl)); (case hp => exact (Reps.c7 (show Kd.M k33 _ _ _ (⟨a2_0, a2_1, a2_2, a2_3, a2_4, a2_5, a2_6⟩ : S33) [.int .i64 a2_0, .int .i64 a2_1, .int .i64 a2_2, .int .i64 a2_3, .int .i64 a2_4, .string a2_5, .int .i64 a2_6] from (k33_mkM _ _ _ (⟨a2_0, a2_1, a2_2, a2_3, a2_4, a2_5, a2_6⟩ : S33) )) (Reps.c7 (show Kd.M k33 _ _ _ (⟨(rd_T33 l1 x8_3).f0, (rd_T33 l1 x8_3).f1, (rd_T33 l1 x8_3).f2, (rd_T33 l1 x8_3).f3, (rd_T33 l1 x8_3).f4, (rd_T33 l1 x8_3).f5, (rd_T33 l1 x8_3).f6⟩ : S33) [.int .i64 ((rd_T33 l1 x8_3).f0), .int .i64 ((rd_T33 l1 x8_3).f1), .int .i64 ((rd_T33 l1 x8_3).f2), .int .i64 ((rd_T33 l1 x8_3).f3), .int .i64 ((rd_T33 l1 x8_3).f4), .string ((rd_T33 l1 x8_3).f5), .int .i64 ((rd_T33 l1 x8_3).f6)] from (k33_mkM _ _ _ (⟨(rd_T33 l1 x8_3).f0, (rd_T33 l1 x8_3).f1, (rd_T33 l1 x8_3).f2, (rd_T33 l1 x8_3).f3, (rd_T33 l1 x8_3).f4, (rd_T33 l1 x8_3).f5, (rd_T33 l1 x8_3).f6⟩ : S33) )) (Reps.none _ _))))
          intro v209 w33 ho34 hb hg_ hnew_
          clear hg_ hnew_
          (first | rw [← Ny208.out] at ho34 | (simp only [Int.reduceToNat] at ho34; rw [← Ny208.out] at ho34))
          have n0_ := Aside0.mk (Kd.R_elder' (rkw HO_7.out) (Kd.R_base ho34) hb)
          have n1_ := Aside0.mk (Kd.R_lower (Kd.R_newB (Kd.R_new' ho34 (Kd.R_lt (rkw HO_7.out))) (g := gb201) (o := .cells #[.int .i64 a2_0, .int .i64 a2_1, .int .i64 a2_2, .int .i64 a2_3, .int .i64 a2_4, .string a2_5, .int .i64 a2_6] 33 (0, 0)) (bkw BK201.out)) (below_size (hbw HB.out)))
          have n2_ := Aside0.mk (blkb BK200.out hb)
          have n3_ := Aside0.mk (blkb BK201.out hb)
          have n4_ := Aside0.mk (below_step (hbw HB.out) hb)
          clear HO_7
          clear BK200
          clear BK201
          clear HB
          have HO_7 := n0_
          have HO210 := n1_
          have BK200 := n2_
          have BK201 := n3_
          have HB := n4_
          clear n0_ n1_ n2_ n3_ n4_
          clear hb ho34
          obtain ⟨Ao36, co36, eo36⟩ := Kd.R_slice HO210.out
          (first | subst eo36 | (injection eo36 with f1_ f2_ f3_; have f4_ := f1_.symm; have f5_ := f3_.symm; clear f1_ f2_ f3_; subst f4_; subst f5_))
          refine hK.out _ _ ⟨(blk_cell BK201.out 0).trans rfl, (blk_cell BK201.out 1).trans rfl, (blk_cell BK201.out 2).trans rfl, (blk_cell BK201.out 3).trans rfl, (blk_cell BK201.out 4).trans rfl, (blk_cell BK201.out 5).trans rfl, (blk_cell BK201.out 6).trans rfl, ((HB.out.cell (World.block_lt_of_cell? w _ hw207_0)).trans hw207_0), ((HB.out.cell (World.block_lt_of_cell? w _ hw207_1)).trans hw207_1), ((HB.out.cell (World.block_lt_of_cell? w _ hw207_2)).trans hw207_2), ((HB.out.cell (World.block_lt_of_cell? w _ hw207_3)).trans hw207_3), ((HB.out.cell (World.block_lt_of_cell? w _ hw207_4)).trans hw207_4), ((HB.out.cell (World.block_lt_of_cell? w _ hw207_5)).trans hw207_5), ((HB.out.cell (World.block_lt_of_cell? w _ hw207_6)).trans hw207_6)⟩ (fun hHeld => ?_)
          clear hK K
          refine norm_ (a' := ?_) ?_ ?_
          rotate_left
          ·show Act.put _ (some 52) _ = _
           simp only [Act.put, nrm]
           rfl
          refine one_ (i := 7) (N := some 53) #[true, true, true, true, true, true, true, true, false] rfl rfl (one_of HT_.out (by kernel_rfl)) (by decide) (fun K hK => ?_)
          refine Kd.R_append_rows_step k33 (w0 := w) w.heap.size (by rfl) (.tmp 46) (.tmp 52) 24 33 (.agg #[(.int .i64 0), (.int .i64 0), (.int .i64 0), (.int .i64 0), (.int .i64 0), (.string ⟨#[]⟩), (.int .i64 0)]) 64 rfl Try.underlying24 info33 rfl (by decide) (by omega) u7 x7_3 y208 _ _ _ (fun k_ => some k_ ≠ (.slice Ao36 y208.length co36 : Value).ownBlock ∧ k_ ≠ gb201) (fun _ => False) rfl rfl ?aO ?aR (fun _ _ h => h) (fun _ h => h.elim) ?aF ?aB ?aS ?aL ?_
          (case aR => repeat (first | exact (Kd.R_reads' HO210.out).2.2 | (with_reducible refine Kd.C_alloc ?_ _) | (with_reducible refine Kd.C_drewN ?_ _) | (with_reducible refine Kd.C_drew ?_)))
          (case aB => exact (hbw HB.out))
          (case aF => exact (fun k_ hk => ⟨Kd.fresh' (Kd.R_lt (rkw HO210.out)) k_ hk, Kd.freshB (g := gb201) (o := .cells #[.int .i64 a2_0, .int .i64 a2_1, .int .i64 a2_2, .int .i64 a2_3, .int .i64 a2_4, .string a2_5, .int .i64 a2_6] 33 (0, 0)) (bkw BK201.out) k_ hk⟩))
          (case aO => exact (by (with_reducible repeat (first | apply Kd.R_alloc | apply Kd.R_drewN | apply Kd.R_drew)); exact Kd.R_mono HO_7.out (fun _ hk => ⟨hk.2, hk.1⟩)))
          (case aS => exact (below_size (hbw HB.out)))
          (case aL => have := LMc31.out; omega)
          intro v212 w35 ho hb hg hat
          rw [← Ny211.out] at ho
          have n0_ := Aside0.mk (blkg BK200.out hg (Kd.R_ne HO_7.out BK200.out (by decide)))
          have n1_ := Aside0.mk (blkg BK201.out hg (Kd.R_away HO_7.out (fun _ hk => hk.1)))
          have n2_ := Aside0.mk (Kd.R_after (ok := (fun k_ => k_ ≠ gb201)) (by (with_reducible repeat (first | apply Kd.R_alloc | apply Kd.R_drewN | apply Kd.R_drew)); exact Kd.R_mono HO210.out (fun _ hk => ⟨hk.2, hk.1.2⟩)) hg hat)
          have n3_ := Aside0.mk (hb)
          have n4_ := Aside0.mk (ho)
          clear BK200
          clear BK201
          clear HO210
          clear HB
          clear HO_7
          have BK200 := n0_
          have BK201 := n1_
          have HO210 := n2_
          have HB := n3_
          have HO213 := n4_
          clear n0_ n1_ n2_ n3_ n4_
          clear ho hb hg hat
          refine hK.out _ _ ⟨(blk_cell BK201.out 0).trans rfl, (blk_cell BK201.out 1).trans rfl, (blk_cell BK201.out 2).trans rfl, (blk_cell BK201.out 3).trans rfl, (blk_cell BK201.out 4).trans rfl, (blk_cell BK201.out 5).trans rfl, (blk_cell BK201.out 6).trans rfl, ((HB.out.cell (World.block_lt_of_cell? w _ hw207_0)).trans hw207_0), ((HB.out.cell (World.block_lt_of_cell? w _ hw207_1)).trans hw207_1), ((HB.out.cell (World.block_lt_of_cell? w _ hw207_2)).trans hw207_2), ((HB.out.cell (World.block_lt_of_cell? w _ hw207_3)).trans hw207_3), ((HB.out.cell (World.block_lt_of_cell? w _ hw207_4)).trans hw207_4), ((HB.out.cell (World.block_lt_of_cell? w _ hw207_5)).trans hw207_5), ((HB.out.cell (World.block_lt_of_cell? w _ hw207_6)).trans hw207_6)⟩ (fun hHeld => ?_)
          clear hK K
          refine norm_ (a' := ?_) ?_ ?_
          rotate_left
          ·show Act.put _ (some 53) _ = _
           simp only [Act.put, nrm]
           rfl
          refine pstep 8 (some 7) #[true, true, true, true, true, true, true, true, true] HT_.out ?_
          refine done_ (done_of HT_.out (by kernel_rfl)) ?_
          try go_wp2
          go_roundg k3
          case measure => have := HJ3.out; have := HJ22.out; have := HK3.out; omega
          case rel => exact ⟨(y211), (wrap64 (x8_3 + 1)), (by first | rfl | (simp; done) | (simp [*]; done)), H', ⟨by have := HJ3.out; have := HJ22.out; have := HK3.out; omega⟩, ⟨by (with_reducible repeat (first | apply Kd.R_alloc | apply Kd.R_drewN | apply Kd.R_drew)); exact Kd.R_mono HO213.out (fun _ hk => hk.2)⟩, ⟨by (with_reducible repeat (first | refine blk_drewN ?_ _ | refine blk_drew ?_ | refine blk_alloc ?_ _)); exact BK200.out⟩, ⟨by (with_reducible repeat (first | refine blk_drewN ?_ _ | refine blk_drew ?_ | refine blk_alloc ?_ _)); exact BK201.out⟩, ⟨by repeat (first | (with_reducible first | exact HB.out | apply below_alloc | apply pw_below_drewN | apply below_drew1 | refine below_set ?_ GE200.out | refine below_set ?_ GE201.out) | exact HB.out)⟩⟩
         ·rw [if_neg c31] at H
          exact absurd H (by simp)
        ·rw [if_neg c30] at H
         exact absurd H (by simp)
       ·rw [if_neg c29] at H
        have c29b0 : decide (x8_3 < (l1.length : Int)) = false := decide_eq_false c29
        clear c29
        by_cases c37 : x7_3.length < 2199023255552
        ·rw [if_pos c37] at H
         have LMc37 := Aside0.mk c37
         clear c37
         obtain ⟨y214, hy214⟩ : ∃ y_ : List (S33), y_ = (x7_3 ++ [(⟨a2_0, a2_1, a2_2, a2_3, a2_4, a2_5, a2_6⟩ : S33)]) := ⟨_, rfl⟩
         replace H : ((nrzi_Decode.f k3 a0_0 y214).bind fun t217 => ((nrzi_Decode.f k3 a0_0 l1).bind fun t220 => ((signalbenchref07_Same.f k3 t217 t220).bind fun t223 => (if t223 = true then ((signalbenchlaw16_awake.f k3).bind fun t224 => (some t224)) else (some false))))) = some r := by first | (rw [hy214]; with_reducible exact H) | (have H2_ := (Option.bind_some _ _).symm.trans H; rw [hy214]; with_reducible exact H2_) | (have H2_ := (Option.bind_some _ _).symm.trans H; with_reducible exact H2_) | with_reducible exact H | (rw [hy214]; exact H) | exact H
         have Ny214 := Aside0.mk hy214
         clear hy214
         replace H := Option.bind_eq_some_iff.mp H
         obtain ⟨t217, A380, H⟩ := H
         replace H : ((nrzi_Decode.f k3 a0_0 l1).bind fun t220 => ((signalbenchref07_Same.f k3 t217 t220).bind fun t223 => (if t223 = true then ((signalbenchlaw16_awake.f k3).bind fun t224 => (some t224)) else (some false)))) = some r := H
         have A38 := Aside0.mk A380
         clear A380
         replace H := Option.bind_eq_some_iff.mp H
         obtain ⟨t220, A390, H⟩ := H
         replace H : ((signalbenchref07_Same.f k3 t217 t220).bind fun t223 => (if t223 = true then ((signalbenchlaw16_awake.f k3).bind fun t224 => (some t224)) else (some false))) = some r := H
         have A39 := Aside0.mk A390
         clear A390
         replace H := Option.bind_eq_some_iff.mp H
         obtain ⟨t223, A400, H⟩ := H
         replace H : (if t223 = true then ((signalbenchlaw16_awake.f k3).bind fun t224 => (some t224)) else (some false)) = some r := H
         have A40 := Aside0.mk A400
         clear A400
         by_cases c41 : t223 = true
         ·subst c41
          have H1 : ((signalbenchlaw16_awake.f k3).bind fun t224 => (some t224)) = some r := by rw [if_pos rfl] at H; exact H
          clear H
          have H := H1
          clear H1
          replace H := Option.bind_eq_some_iff.mp H
          obtain ⟨t224, A420, H⟩ := H
          replace H : (some t224) = some r := H
          have A42 := Aside0.mk A420
          clear A420
          obtain rfl := Option.some.inj H
          try go_wp2
          have n0_ := Aside0.mk (Kd.R_drew HO_7.out)
          have n1_ := Aside0.mk (blk_drew BK200.out)
          have n2_ := Aside0.mk (blk_drew BK201.out)
          have n3_ := Aside0.mk (below_drew1 HB.out)
          clear HO_7
          clear BK200
          clear BK201
          clear HB
          have HO_7 := n0_
          have BK200 := n1_
          have BK201 := n2_
          have HB := n3_
          clear n0_ n1_ n2_ n3_
          refine start_ (n := 14) (S := fun w' => w'.cell? ⟨gb200, 0, none⟩ = some (.bool a0_0) ∧ w'.cell? ⟨gb201, 0, none⟩ = some (.int .i64 a2_0) ∧ w'.cell? ⟨gb201, 1, none⟩ = some (.int .i64 a2_1) ∧ w'.cell? ⟨gb201, 2, none⟩ = some (.int .i64 a2_2) ∧ w'.cell? ⟨gb201, 3, none⟩ = some (.int .i64 a2_3) ∧ w'.cell? ⟨gb201, 4, none⟩ = some (.int .i64 a2_4) ∧ w'.cell? ⟨gb201, 5, none⟩ = some (.string a2_5) ∧ w'.cell? ⟨gb201, 6, none⟩ = some (.int .i64 a2_6)) (ds := []) #[false, false, false, false, false, false, false, false, false, false, false, false, false, false] (by kernel_rfl) rfl rfl ⟨(blk_cell BK200.out 0).trans rfl, (blk_cell BK201.out 0).trans rfl, (blk_cell BK201.out 1).trans rfl, (blk_cell BK201.out 2).trans rfl, (blk_cell BK201.out 3).trans rfl, (blk_cell BK201.out 4).trans rfl, (blk_cell BK201.out 5).trans rfl, (blk_cell BK201.out 6).trans rfl⟩ (fun hHeld => ?_); refine with_tabW signalbenchlaw16_NrziIgnores.tab8 signalbenchlaw16_NrziIgnores.bits8 (fun HT_ HW_ => ?_)
          generalize wr.drew = w43 at HO_7 BK200 BK201 HB hHeld ⊢
          refine pstep 1 (some 55) #[false, true, false, false, false, false, false, false, false, false, false, false, false, false] HT_.out ?_
          refine pstep 7 (some 61) #[false, true, false, false, false, false, false, true, false, false, false, false, false, false] HT_.out ?_
          refine take_ (i := 0) (N := some 54) (v := ?_) (a' := ?_) #[true, true, false, false, false, false, false, true, false, false, false, false, false, false] rfl rfl (take_ofW HT_.out HW_.out (by kernel_rfl)) (fun _ _ _ h => h) (Or.inl ⟨by rfl, ?_⟩) hHeld ?_ ?_
          rotate_left
          ·rintro w' ⟨s0, s1, s2, s3, s4, s5, s6, s7⟩
           go_simp
           with_reducible rfl
          rotate_left
          ·simp only [Act.put, nrm]
           rfl
          refine take_ (i := 2) (N := some 56) (v := ?_) (a' := ?_) #[true, true, true, false, false, false, false, true, false, false, false, false, false, false] rfl rfl (take_ofW HT_.out HW_.out (by kernel_rfl)) (fun _ _ _ h => h) (Or.inl ⟨by rfl, ?_⟩) hHeld ?_ ?_
          rotate_left
          ·rintro w' ⟨s0, s1, s2, s3, s4, s5, s6, s7⟩
           go_simp
           with_reducible rfl
          rotate_left
          ·simp only [Act.put, nrm]
           rfl
          refine take_ (i := 6) (N := some 60) (v := ?_) (a' := ?_) #[true, true, true, false, false, false, true, true, false, false, false, false, false, false] rfl rfl (take_ofW HT_.out HW_.out (by kernel_rfl)) (fun _ _ _ h => h) (Or.inl ⟨by rfl, ?_⟩) hHeld ?_ ?_
          rotate_left
          ·rintro w' ⟨s0, s1, s2, s3, s4, s5, s6, s7⟩
           go_simp
           with_reducible rfl
          rotate_left
          ·simp only [Act.put, nrm]
           rfl
          refine one_ (i := 3) (N := some 57) #[true, true, true, true, false, false, true, true, false, false, false, false, false, false] rfl rfl (one_of HT_.out (by kernel_rfl)) (by decide) (fun K hK => ?_)
          refine value_ (w1 := ?_) (v := ?_) (by rfl) rfl ?_ ?_
          rotate_left 2
          ·go_simp
           constructor
           ·rfl
           ·rfl
          refine hK.out _ _ ⟨(blk_cell (blk_alloc BK200.out _) 0).trans rfl, (blk_cell (blk_alloc BK201.out _) 0).trans rfl, (blk_cell (blk_alloc BK201.out _) 1).trans rfl, (blk_cell (blk_alloc BK201.out _) 2).trans rfl, (blk_cell (blk_alloc BK201.out _) 3).trans rfl, (blk_cell (blk_alloc BK201.out _) 4).trans rfl, (blk_cell (blk_alloc BK201.out _) 5).trans rfl, (blk_cell (blk_alloc BK201.out _) 6).trans rfl⟩ (fun hHeld => ?_)
          clear hK K
          refine norm_ (a' := ?_) ?_ ?_
          rotate_left
          ·show Act.put _ (some 57) _ = _
           simp only [Act.put, nrm]
           rfl
          refine one_ (i := 4) (N := some 58) #[true, true, true, true, true, false, true, true, false, false, false, false, false, false] rfl rfl (one_of HT_.out (by kernel_rfl)) (by decide) (fun K hK => ?_)
          refine Kd.R_append_step k33 (w0 := w) w.heap.size (by rfl) (.tmp 55) (.tmp 57) 24 33 (.agg #[(.int .i64 0), (.int .i64 0), (.int .i64 0), (.int .i64 0), (.int .i64 0), (.string ⟨#[]⟩), (.int .i64 0)]) 64 rfl Try.underlying24 info33 rfl (by decide) (by omega) u7 x7_3 (⟨a2_0, a2_1, a2_2, a2_3, a2_4, a2_5, a2_6⟩ : S33) [.int .i64 a2_0, .int .i64 a2_1, .int .i64 a2_2, .int .i64 a2_3, .int .i64 a2_4, .string a2_5, .int .i64 a2_6] (fun k_ => k_ ≠ gb201) (fun _ => False) rfl rfl ?aP (fun _ hk => hk.elim) ?aF ?aO ?aB ?aS ?aL ?_
          (case aP => exact k33_mkM _ _ _ (⟨a2_0, a2_1, a2_2, a2_3, a2_4, a2_5, a2_6⟩ : S33))
          (case aB => exact (hbw HB.out))
          (case aF => exact (fun k_ hk => Kd.freshB (g := gb201) (o := .cells #[.int .i64 a2_0, .int .i64 a2_1, .int .i64 a2_2, .int .i64 a2_3, .int .i64 a2_4, .string a2_5, .int .i64 a2_6] 33 (0, 0)) (bkw BK201.out) k_ hk))
          (case aO => exact (rkw HO_7.out))
          (case aS => exact (below_size (hbw HB.out)))
          (case aL => have := LMc37.out; omega)
          intro v215 w44 ho hb hg hat
          rw [← Ny214.out] at ho
          have n0_ := Aside0.mk (blkg BK200.out hg (Kd.R_ne HO_7.out BK200.out (by decide)))
          have n1_ := Aside0.mk (blkg BK201.out hg (Kd.R_away HO_7.out (fun _ hk => hk)))
          have n2_ := Aside0.mk (hb)
          have n3_ := Aside0.mk (ho)
          clear BK200
          clear BK201
          clear HB
          clear HO_7
          have BK200 := n0_
          have BK201 := n1_
          have HB := n2_
          have HO216 := n3_
          clear n0_ n1_ n2_ n3_
          clear ho hb hg hat
          obtain ⟨Ao45, co45, eo45⟩ := Kd.R_slice HO216.out
          (first | subst eo45 | (injection eo45 with f1_ f2_ f3_; have f4_ := f1_.symm; have f5_ := f3_.symm; clear f1_ f2_ f3_; subst f4_; subst f5_))
          refine hK.out _ _ ⟨(blk_cell BK200.out 0).trans rfl, (blk_cell BK201.out 0).trans rfl, (blk_cell BK201.out 1).trans rfl, (blk_cell BK201.out 2).trans rfl, (blk_cell BK201.out 3).trans rfl, (blk_cell BK201.out 4).trans rfl, (blk_cell BK201.out 5).trans rfl, (blk_cell BK201.out 6).trans rfl⟩ (fun hHeld => ?_)
          clear hK K
          refine norm_ (a' := ?_) ?_ ?_
          rotate_left
          ·show Act.put _ (some 58) _ = _
           simp only [Act.put, nrm]
           rfl
          refine one_ (i := 5) (N := some 59) #[true, true, true, true, true, true, true, true, false, false, false, false, false, false] rfl rfl (one_of HT_.out (by kernel_rfl)) (by decide) (fun K hK => ?_)
          refine goes_ Try.func17 (by kernel_rfl) rfl #[.agg #[.bool a0_0], .slice Ao45 y214.length co45] (by rfl) rfl rfl (by (try simp only [List.map_toArray, List.map_cons, List.map_nil]); first | done | rfl | (simp only [List.length_drop, List.length_take]; rfl)) ?_
          with_reducible refine (nrzi_Decode.calls k3 a0_0 _ _ y214 t217 _ ?side1 ?side2 A38.out).mono ?_
          (case side1 => repeat (first | exact (Kd.R_reads' HO216.out).2.2 | (with_reducible refine Kd.C_alloc ?_ _) | (with_reducible refine Kd.C_drewN ?_ _) | (with_reducible refine Kd.C_drew ?_)))
          (case side2 => exact (Kd.R_reads' HO216.out).2.1)
          rintro e w46 ⟨v218, rfl, ho0, hb⟩
          refine ⟨_, rfl, ?_⟩
          have n0_ := Aside0.mk (Kd.R_elder' (rkw HO216.out) (Kd.R_base ho0) hb)
          have n1_ := Aside0.mk (Kd.R_lower (Kd.R_newB (Kd.R_new' ho0 (Kd.R_lt (rkw HO216.out))) (g := gb201) (o := .cells #[.int .i64 a2_0, .int .i64 a2_1, .int .i64 a2_2, .int .i64 a2_3, .int .i64 a2_4, .string a2_5, .int .i64 a2_6] 33 (0, 0)) (bkw BK201.out)) (below_size (hbw HB.out)))
          have n2_ := Aside0.mk (blkb BK200.out hb)
          have n3_ := Aside0.mk (blkb BK201.out hb)
          have n4_ := Aside0.mk (below_step (hbw HB.out) hb)
          clear HO216
          clear BK200
          clear BK201
          clear HB
          have HO216 := n0_
          have HO219 := n1_
          have BK200 := n2_
          have BK201 := n3_
          have HB := n4_
          clear n0_ n1_ n2_ n3_ n4_
          (try clear hb)
          (try clear hb2)
          (try clear hk)
          (try clear hi)
          (try clear ho0)
          refine hK.out _ _ ⟨(blk_cell BK200.out 0).trans rfl, (blk_cell BK201.out 0).trans rfl, (blk_cell BK201.out 1).trans rfl, (blk_cell BK201.out 2).trans rfl, (blk_cell BK201.out 3).trans rfl, (blk_cell BK201.out 4).trans rfl, (blk_cell BK201.out 5).trans rfl, (blk_cell BK201.out 6).trans rfl⟩ (fun hHeld => ?_)
          clear hK K
          refine norm_ (a' := ?_) ?_ ?_
          rotate_left
          ·show Act.put _ (some 59) _ = _
           simp only [Act.put, nrm]
           rfl
          refine one_ (i := 8) (N := some 62) #[true, true, true, true, true, true, true, true, true, false, false, false, false, false] rfl rfl (one_of HT_.out (by kernel_rfl)) (by decide) (fun K hK => ?_)
          refine goes_ Try.func17 (by kernel_rfl) rfl #[.agg #[.bool a0_0], .slice A1 l1.length c1] (by rfl) rfl rfl (by (try simp only [List.map_toArray, List.map_cons, List.map_nil]); first | done | rfl | (simp only [List.length_drop, List.length_take]; rfl)) ?_
          with_reducible refine (nrzi_Decode.calls k3 a0_0 _ _ l1 t220 _ ?side1 ?side2 A39.out).mono ?_
          (case side1 => repeat (first | exact (Kd.C_below HR1.out HB.out) | (with_reducible refine Kd.C_alloc ?_ _) | (with_reducible refine Kd.C_drewN ?_ _) | (with_reducible refine Kd.C_drew ?_)))
          (case side2 => exact HC1.out)
          rintro e w47 ⟨v221, rfl, ho0, hb⟩
          refine ⟨_, rfl, ?_⟩
          have n0_ := Aside0.mk (Kd.R_elder' (rkw HO216.out) (Kd.R_base ho0) hb)
          have n1_ := Aside0.mk (Kd.R_elder' (rkw HO219.out) (Kd.R_base ho0) hb)
          have n2_ := Aside0.mk (Kd.R_lower (Kd.R_newB (Kd.R_new' (Kd.R_new' ho0 (Kd.R_lt (rkw HO216.out))) (Kd.R_lt (rkw HO219.out))) (g := gb201) (o := .cells #[.int .i64 a2_0, .int .i64 a2_1, .int .i64 a2_2, .int .i64 a2_3, .int .i64 a2_4, .string a2_5, .int .i64 a2_6] 33 (0, 0)) (bkw BK201.out)) (below_size (hbw HB.out)))
          have n3_ := Aside0.mk (blkb BK200.out hb)
          have n4_ := Aside0.mk (blkb BK201.out hb)
          have n5_ := Aside0.mk (below_step (hbw HB.out) hb)
          clear HO216
          clear HO219
          clear BK200
          clear BK201
          clear HB
          have HO216 := n0_
          have HO219 := n1_
          have HO222 := n2_
          have BK200 := n3_
          have BK201 := n4_
          have HB := n5_
          clear n0_ n1_ n2_ n3_ n4_ n5_
          (try clear hb)
          (try clear hb2)
          (try clear hk)
          (try clear hi)
          (try clear ho0)
          obtain ⟨Ao48, co48, eo48⟩ := Kd.R_slice HO219.out
          (first | subst eo48 | (injection eo48 with f1_ f2_ f3_; have f4_ := f1_.symm; have f5_ := f3_.symm; clear f1_ f2_ f3_; subst f4_; subst f5_))
          obtain ⟨Ao49, co49, eo49⟩ := Kd.R_slice HO222.out
          (first | subst eo49 | (injection eo49 with f1_ f2_ f3_; have f4_ := f1_.symm; have f5_ := f3_.symm; clear f1_ f2_ f3_; subst f4_; subst f5_))
          refine hK.out _ _ ⟨(blk_cell BK200.out 0).trans rfl, (blk_cell BK201.out 0).trans rfl, (blk_cell BK201.out 1).trans rfl, (blk_cell BK201.out 2).trans rfl, (blk_cell BK201.out 3).trans rfl, (blk_cell BK201.out 4).trans rfl, (blk_cell BK201.out 5).trans rfl, (blk_cell BK201.out 6).trans rfl⟩ (fun hHeld => ?_)
          clear hK K
          refine norm_ (a' := ?_) ?_ ?_
          rotate_left
          ·show Act.put _ (some 62) _ = _
           simp only [Act.put, nrm]
           rfl
          refine one_ (i := 9) (N := some 63) #[true, true, true, true, true, true, true, true, true, true, false, false, false, false] rfl rfl (one_of HT_.out (by kernel_rfl)) (by decide) (fun K hK => ?_)
          refine goes_ Try.func14 (by kernel_rfl) rfl #[.slice Ao48 t217.length co48, .slice Ao49 t220.length co49] (by rfl) rfl rfl (by (try simp only [List.map_toArray, List.map_cons, List.map_nil]); first | done | rfl | (simp only [List.length_drop, List.length_take]; rfl)) ?_
          with_reducible refine (signalbenchref07_Same.calls k3 _ _ t217 _ _ t220 true _ ?side1 ?side2 ?side3 ?side4 A40.out).mono ?_
          (case side1 => repeat (first | exact (Kd.R_reads' HO219.out).2.2 | (with_reducible refine Kd.C_alloc ?_ _) | (with_reducible refine Kd.C_drewN ?_ _) | (with_reducible refine Kd.C_drew ?_)))
          (case side2 => exact (Kd.R_reads' HO219.out).2.1)
          (case side3 => repeat (first | exact (Kd.R_reads' HO222.out).2.2 | (with_reducible refine Kd.C_alloc ?_ _) | (with_reducible refine Kd.C_drewN ?_ _) | (with_reducible refine Kd.C_drew ?_)))
          (case side4 => exact (Kd.R_reads' HO222.out).2.1)
          rintro e w' ⟨rfl, ⟨nd, rfl⟩⟩
          refine ⟨_, rfl, ?_⟩
          refine hK.out _ _ ⟨(blk_cell BK200.out 0).trans rfl, (blk_cell BK201.out 0).trans rfl, (blk_cell BK201.out 1).trans rfl, (blk_cell BK201.out 2).trans rfl, (blk_cell BK201.out 3).trans rfl, (blk_cell BK201.out 4).trans rfl, (blk_cell BK201.out 5).trans rfl, (blk_cell BK201.out 6).trans rfl⟩ (fun hHeld => ?_)
          clear hK K
          refine norm_ (a' := ?_) ?_ ?_
          rotate_left
          ·show Act.put _ (some 63) _ = _
           simp only [Act.put, nrm]
           rfl
          refine pstep 10 (some 64) #[true, true, true, true, true, true, true, true, true, true, true, false, false, false] HT_.out ?_
          refine one_ (i := 11) (N := some 65) #[true, true, true, true, true, true, true, true, true, true, true, true, false, false] rfl rfl (one_of HT_.out (by kernel_rfl)) (by decide) (fun K hK => ?_)
          refine goes_ Try.func9 (by kernel_rfl) rfl #[] (by rfl) rfl rfl (by (try simp only [List.map_toArray, List.map_cons, List.map_nil]); first | done | rfl | (simp only [List.length_drop, List.length_take]; rfl)) ?_
          with_reducible refine (signalbenchlaw16_awake.calls k3  t224 _ A42.out).mono ?_
          rintro e w50 ⟨rfl, hb⟩
          refine ⟨_, rfl, ?_⟩
          have n0_ := Aside0.mk (Kd.R_below (rkw HO216.out) hb)
          have n1_ := Aside0.mk (Kd.R_below (rkw HO219.out) hb)
          have n2_ := Aside0.mk (Kd.R_below (rkw HO222.out) hb)
          have n3_ := Aside0.mk (blkb BK200.out hb)
          have n4_ := Aside0.mk (blkb BK201.out hb)
          have n5_ := Aside0.mk (below_step (hbw HB.out) hb)
          clear HO216
          clear HO219
          clear HO222
          clear BK200
          clear BK201
          clear HB
          have HO216 := n0_
          have HO219 := n1_
          have HO222 := n2_
          have BK200 := n3_
          have BK201 := n4_
          have HB := n5_
          clear n0_ n1_ n2_ n3_ n4_ n5_
          (try clear hb)
          (try clear hb2)
          (try clear hk)
          (try clear hi)
          refine hK.out _ _ ⟨(blk_cell BK200.out 0).trans rfl, (blk_cell BK201.out 0).trans rfl, (blk_cell BK201.out 1).trans rfl, (blk_cell BK201.out 2).trans rfl, (blk_cell BK201.out 3).trans rfl, (blk_cell BK201.out 4).trans rfl, (blk_cell BK201.out 5).trans rfl, (blk_cell BK201.out 6).trans rfl⟩ (fun hHeld => ?_)
          clear hK K
          refine norm_ (a' := ?_) ?_ ?_
          rotate_left
          ·show Act.put _ (some 65) _ = _
           simp only [Act.put, nrm]
           rfl
          refine pstep 12 (some 66) #[true, true, true, true, true, true, true, true, true, true, true, true, true, false] HT_.out ?_
          refine pstep 13 (some 6) #[true, true, true, true, true, true, true, true, true, true, true, true, true, true] HT_.out ?_
          refine done_ (done_of HT_.out (by kernel_rfl)) ?_
          try go_wp2
          go_ret
          exact ⟨by first | rfl | (simp [errW_none, errW_some] <;> rfl) | (simp [*, errW_none, errW_some] <;> rfl), by repeat (first | (with_reducible first | exact HB.out | apply below_alloc | apply pw_below_drewN | apply below_drew1 | refine below_set ?_ GE200.out | refine below_set ?_ GE201.out) | exact HB.out)⟩
         ·replace c41 := Bool.eq_false_iff.mpr c41
          subst c41
          have H1 : (some false) = some r := by rw [if_neg (show ¬ (false = true) by decide)] at H; exact H
          clear H
          have H := H1
          clear H1
          obtain rfl := Option.some.inj H
          try go_wp2
          have n0_ := Aside0.mk (Kd.R_drew HO_7.out)
          have n1_ := Aside0.mk (blk_drew BK200.out)
          have n2_ := Aside0.mk (blk_drew BK201.out)
          have n3_ := Aside0.mk (below_drew1 HB.out)
          clear HO_7
          clear BK200
          clear BK201
          clear HB
          have HO_7 := n0_
          have BK200 := n1_
          have BK201 := n2_
          have HB := n3_
          clear n0_ n1_ n2_ n3_
          refine start_ (n := 14) (S := fun w' => w'.cell? ⟨gb200, 0, none⟩ = some (.bool a0_0) ∧ w'.cell? ⟨gb201, 0, none⟩ = some (.int .i64 a2_0) ∧ w'.cell? ⟨gb201, 1, none⟩ = some (.int .i64 a2_1) ∧ w'.cell? ⟨gb201, 2, none⟩ = some (.int .i64 a2_2) ∧ w'.cell? ⟨gb201, 3, none⟩ = some (.int .i64 a2_3) ∧ w'.cell? ⟨gb201, 4, none⟩ = some (.int .i64 a2_4) ∧ w'.cell? ⟨gb201, 5, none⟩ = some (.string a2_5) ∧ w'.cell? ⟨gb201, 6, none⟩ = some (.int .i64 a2_6)) (ds := []) #[false, false, false, false, false, false, false, false, false, false, false, false, false, false] (by kernel_rfl) rfl rfl ⟨(blk_cell BK200.out 0).trans rfl, (blk_cell BK201.out 0).trans rfl, (blk_cell BK201.out 1).trans rfl, (blk_cell BK201.out 2).trans rfl, (blk_cell BK201.out 3).trans rfl, (blk_cell BK201.out 4).trans rfl, (blk_cell BK201.out 5).trans rfl, (blk_cell BK201.out 6).trans rfl⟩ (fun hHeld => ?_); refine with_tabW signalbenchlaw16_NrziIgnores.tab8 signalbenchlaw16_NrziIgnores.bits8 (fun HT_ HW_ => ?_)
          generalize wr.drew = w51 at HO_7 BK200 BK201 HB hHeld ⊢
          refine pstep 1 (some 55) #[false, true, false, false, false, false, false, false, false, false, false, false, false, false] HT_.out ?_
          refine pstep 7 (some 61) #[false, true, false, false, false, false, false, true, false, false, false, false, false, false] HT_.out ?_
          refine take_ (i := 0) (N := some 54) (v := ?_) (a' := ?_) #[true, true, false, false, false, false, false, true, false, false, false, false, false, false] rfl rfl (take_ofW HT_.out HW_.out (by kernel_rfl)) (fun _ _ _ h => h) (Or.inl ⟨by rfl, ?_⟩) hHeld ?_ ?_
          rotate_left
          ·rintro w' ⟨s0, s1, s2, s3, s4, s5, s6, s7⟩
           go_simp
           with_reducible rfl
          rotate_left
          ·simp only [Act.put, nrm]
           rfl
          refine take_ (i := 2) (N := some 56) (v := ?_) (a' := ?_) #[true, true, true, false, false, false, false, true, false, false, false, false, false, false] rfl rfl (take_ofW HT_.out HW_.out (by kernel_rfl)) (fun _ _ _ h => h) (Or.inl ⟨by rfl, ?_⟩) hHeld ?_ ?_
          rotate_left
          ·rintro w' ⟨s0, s1, s2, s3, s4, s5, s6, s7⟩
           go_simp
           with_reducible rfl
          rotate_left
          ·simp only [Act.put, nrm]
           rfl
          refine take_ (i := 6) (N := some 60) (v := ?_) (a' := ?_) #[true, true, true, false, false, false, true, true, false, false, false, false, false, false] rfl rfl (take_ofW HT_.out HW_.out (by kernel_rfl)) (fun _ _ _ h => h) (Or.inl ⟨by rfl, ?_⟩) hHeld ?_ ?_
          rotate_left
          ·rintro w' ⟨s0, s1, s2, s3, s4, s5, s6, s7⟩
           go_simp
           with_reducible rfl
          rotate_left
          ·simp only [Act.put, nrm]
           rfl
          refine one_ (i := 3) (N := some 57) #[true, true, true, true, false, false, true, true, false, false, false, false, false, false] rfl rfl (one_of HT_.out (by kernel_rfl)) (by decide) (fun K hK => ?_)
          refine value_ (w1 := ?_) (v := ?_) (by rfl) rfl ?_ ?_
          rotate_left 2
          ·go_simp
           constructor
           ·rfl
           ·rfl
          refine hK.out _ _ ⟨(blk_cell (blk_alloc BK200.out _) 0).trans rfl, (blk_cell (blk_alloc BK201.out _) 0).trans rfl, (blk_cell (blk_alloc BK201.out _) 1).trans rfl, (blk_cell (blk_alloc BK201.out _) 2).trans rfl, (blk_cell (blk_alloc BK201.out _) 3).trans rfl, (blk_cell (blk_alloc BK201.out _) 4).trans rfl, (blk_cell (blk_alloc BK201.out _) 5).trans rfl, (blk_cell (blk_alloc BK201.out _) 6).trans rfl⟩ (fun hHeld => ?_)
          clear hK K
          refine norm_ (a' := ?_) ?_ ?_
          rotate_left
          ·show Act.put _ (some 57) _ = _
           simp only [Act.put, nrm]
           rfl
          refine one_ (i := 4) (N := some 58) #[true, true, true, true, true, false, true, true, false, false, false, false, false, false] rfl rfl (one_of HT_.out (by kernel_rfl)) (by decide) (fun K hK => ?_)
          refine Kd.R_append_step k33 (w0 := w) w.heap.size (by rfl) (.tmp 55) (.tmp 57) 24 33 (.agg #[(.int .i64 0), (.int .i64 0), (.int .i64 0), (.int .i64 0), (.int .i64 0), (.string ⟨#[]⟩), (.int .i64 0)]) 64 rfl Try.underlying24 info33 rfl (by decide) (by omega) u7 x7_3 (⟨a2_0, a2_1, a2_2, a2_3, a2_4, a2_5, a2_6⟩ : S33) [.int .i64 a2_0, .int .i64 a2_1, .int .i64 a2_2, .int .i64 a2_3, .int .i64 a2_4, .string a2_5, .int .i64 a2_6] (fun k_ => k_ ≠ gb201) (fun _ => False) rfl rfl ?aP (fun _ hk => hk.elim) ?aF ?aO ?aB ?aS ?aL ?_
          (case aP => exact k33_mkM _ _ _ (⟨a2_0, a2_1, a2_2, a2_3, a2_4, a2_5, a2_6⟩ : S33))
          (case aB => exact (hbw HB.out))
          (case aF => exact (fun k_ hk => Kd.freshB (g := gb201) (o := .cells #[.int .i64 a2_0, .int .i64 a2_1, .int .i64 a2_2, .int .i64 a2_3, .int .i64 a2_4, .string a2_5, .int .i64 a2_6] 33 (0, 0)) (bkw BK201.out) k_ hk))
          (case aO => exact (rkw HO_7.out))
          (case aS => exact (below_size (hbw HB.out)))
          (case aL => have := LMc37.out; omega)
          intro v215 w52 ho hb hg hat
          rw [← Ny214.out] at ho
          have n0_ := Aside0.mk (blkg BK200.out hg (Kd.R_ne HO_7.out BK200.out (by decide)))
          have n1_ := Aside0.mk (blkg BK201.out hg (Kd.R_away HO_7.out (fun _ hk => hk)))
          have n2_ := Aside0.mk (hb)
          have n3_ := Aside0.mk (ho)
          clear BK200
          clear BK201
          clear HB
          clear HO_7
          have BK200 := n0_
          have BK201 := n1_
          have HB := n2_
          have HO216 := n3_
          clear n0_ n1_ n2_ n3_
          clear ho hb hg hat
          obtain ⟨Ao53, co53, eo53⟩ := Kd.R_slice HO216.out
          (first | subst eo53 | (injection eo53 with f1_ f2_ f3_; have f4_ := f1_.symm; have f5_ := f3_.symm; clear f1_ f2_ f3_; subst f4_; subst f5_))
          refine hK.out _ _ ⟨(blk_cell BK200.out 0).trans rfl, (blk_cell BK201.out 0).trans rfl, (blk_cell BK201.out 1).trans rfl, (blk_cell BK201.out 2).trans rfl, (blk_cell BK201.out 3).trans rfl, (blk_cell BK201.out 4).trans rfl, (blk_cell BK201.out 5).trans rfl, (blk_cell BK201.out 6).trans rfl⟩ (fun hHeld => ?_)
          clear hK K
          refine norm_ (a' := ?_) ?_ ?_
          rotate_left
          ·show Act.put _ (some 58) _ = _
           simp only [Act.put, nrm]
           rfl
          refine one_ (i := 5) (N := some 59) #[true, true, true, true, true, true, true, true, false, false, false, false, false, false] rfl rfl (one_of HT_.out (by kernel_rfl)) (by decide) (fun K hK => ?_)
          refine goes_ Try.func17 (by kernel_rfl) rfl #[.agg #[.bool a0_0], .slice Ao53 y214.length co53] (by rfl) rfl rfl (by (try simp only [List.map_toArray, List.map_cons, List.map_nil]); first | done | rfl | (simp only [List.length_drop, List.length_take]; rfl)) ?_
          with_reducible refine (nrzi_Decode.calls k3 a0_0 _ _ y214 t217 _ ?side1 ?side2 A38.out).mono ?_
          (case side1 => repeat (first | exact (Kd.R_reads' HO216.out).2.2 | (with_reducible refine Kd.C_alloc ?_ _) | (with_reducible refine Kd.C_drewN ?_ _) | (with_reducible refine Kd.C_drew ?_)))
          (case side2 => exact (Kd.R_reads' HO216.out).2.1)
          rintro e w54 ⟨v218, rfl, ho0, hb⟩
          refine ⟨_, rfl, ?_⟩
          have n0_ := Aside0.mk (Kd.R_elder' (rkw HO216.out) (Kd.R_base ho0) hb)
          have n1_ := Aside0.mk (Kd.R_lower (Kd.R_newB (Kd.R_new' ho0 (Kd.R_lt (rkw HO216.out))) (g := gb201) (o := .cells #[.int .i64 a2_0, .int .i64 a2_1, .int .i64 a2_2, .int .i64 a2_3, .int .i64 a2_4, .string a2_5, .int .i64 a2_6] 33 (0, 0)) (bkw BK201.out)) (below_size (hbw HB.out)))
          have n2_ := Aside0.mk (blkb BK200.out hb)
          have n3_ := Aside0.mk (blkb BK201.out hb)
          have n4_ := Aside0.mk (below_step (hbw HB.out) hb)
          clear HO216
          clear BK200
          clear BK201
          clear HB
          have HO216 := n0_
          have HO219 := n1_
          have BK200 := n2_
          have BK201 := n3_
          have HB := n4_
          clear n0_ n1_ n2_ n3_ n4_
          (try clear hb)
          (try clear hb2)
          (try clear hk)
          (try clear hi)
          (try clear ho0)
          refine hK.out _ _ ⟨(blk_cell BK200.out 0).trans rfl, (blk_cell BK201.out 0).trans rfl, (blk_cell BK201.out 1).trans rfl, (blk_cell BK201.out 2).trans rfl, (blk_cell BK201.out 3).trans rfl, (blk_cell BK201.out 4).trans rfl, (blk_cell BK201.out 5).trans rfl, (blk_cell BK201.out 6).trans rfl⟩ (fun hHeld => ?_)
          clear hK K
          refine norm_ (a' := ?_) ?_ ?_
          rotate_left
          ·show Act.put _ (some 59) _ = _
           simp only [Act.put, nrm]
           rfl
          refine one_ (i := 8) (N := some 62) #[true, true, true, true, true, true, true, true, true, false, false, false, false, false] rfl rfl (one_of HT_.out (by kernel_rfl)) (by decide) (fun K hK => ?_)
          refine goes_ Try.func17 (by kernel_rfl) rfl #[.agg #[.bool a0_0], .slice A1 l1.length c1] (by rfl) rfl rfl (by (try simp only [List.map_toArray, List.map_cons, List.map_nil]); first | done | rfl | (simp only [List.length_drop, List.length_take]; rfl)) ?_
          with_reducible refine (nrzi_Decode.calls k3 a0_0 _ _ l1 t220 _ ?side1 ?side2 A39.out).mono ?_
          (case side1 => repeat (first | exact (Kd.C_below HR1.out HB.out) | (with_reducible refine Kd.C_alloc ?_ _) | (with_reducible refine Kd.C_drewN ?_ _) | (with_reducible refine Kd.C_drew ?_)))
          (case side2 => exact HC1.out)
          rintro e w55 ⟨v221, rfl, ho0, hb⟩
          refine ⟨_, rfl, ?_⟩
          have n0_ := Aside0.mk (Kd.R_elder' (rkw HO216.out) (Kd.R_base ho0) hb)
          have n1_ := Aside0.mk (Kd.R_elder' (rkw HO219.out) (Kd.R_base ho0) hb)
          have n2_ := Aside0.mk (Kd.R_lower (Kd.R_newB (Kd.R_new' (Kd.R_new' ho0 (Kd.R_lt (rkw HO216.out))) (Kd.R_lt (rkw HO219.out))) (g := gb201) (o := .cells #[.int .i64 a2_0, .int .i64 a2_1, .int .i64 a2_2, .int .i64 a2_3, .int .i64 a2_4, .string a2_5, .int .i64 a2_6] 33 (0, 0)) (bkw BK201.out)) (below_size (hbw HB.out)))
          have n3_ := Aside0.mk (blkb BK200.out hb)
          have n4_ := Aside0.mk (blkb BK201.out hb)
          have n5_ := Aside0.mk (below_step (hbw HB.out) hb)
          clear HO216
          clear HO219
          clear BK200
          clear BK201
          clear HB
          have HO216 := n0_
          have HO219 := n1_
          have HO222 := n2_
          have BK200 := n3_
          have BK201 := n4_
          have HB := n5_
          clear n0_ n1_ n2_ n3_ n4_ n5_
          (try clear hb)
          (try clear hb2)
          (try clear hk)
          (try clear hi)
          (try clear ho0)
          obtain ⟨Ao56, co56, eo56⟩ := Kd.R_slice HO219.out
          (first | subst eo56 | (injection eo56 with f1_ f2_ f3_; have f4_ := f1_.symm; have f5_ := f3_.symm; clear f1_ f2_ f3_; subst f4_; subst f5_))
          obtain ⟨Ao57, co57, eo57⟩ := Kd.R_slice HO222.out
          (first | subst eo57 | (injection eo57 with f1_ f2_ f3_; have f4_ := f1_.symm; have f5_ := f3_.symm; clear f1_ f2_ f3_; subst f4_; subst f5_))
          refine hK.out _ _ ⟨(blk_cell BK200.out 0).trans rfl, (blk_cell BK201.out 0).trans rfl, (blk_cell BK201.out 1).trans rfl, (blk_cell BK201.out 2).trans rfl, (blk_cell BK201.out 3).trans rfl, (blk_cell BK201.out 4).trans rfl, (blk_cell BK201.out 5).trans rfl, (blk_cell BK201.out 6).trans rfl⟩ (fun hHeld => ?_)
          clear hK K
          refine norm_ (a' := ?_) ?_ ?_
          rotate_left
          ·show Act.put _ (some 62) _ = _
           simp only [Act.put, nrm]
           rfl
          refine one_ (i := 9) (N := some 63) #[true, true, true, true, true, true, true, true, true, true, false, false, false, false] rfl rfl (one_of HT_.out (by kernel_rfl)) (by decide) (fun K hK => ?_)
          refine goes_ Try.func14 (by kernel_rfl) rfl #[.slice Ao56 t217.length co56, .slice Ao57 t220.length co57] (by rfl) rfl rfl (by (try simp only [List.map_toArray, List.map_cons, List.map_nil]); first | done | rfl | (simp only [List.length_drop, List.length_take]; rfl)) ?_
          with_reducible refine (signalbenchref07_Same.calls k3 _ _ t217 _ _ t220 false _ ?side1 ?side2 ?side3 ?side4 A40.out).mono ?_
          (case side1 => repeat (first | exact (Kd.R_reads' HO219.out).2.2 | (with_reducible refine Kd.C_alloc ?_ _) | (with_reducible refine Kd.C_drewN ?_ _) | (with_reducible refine Kd.C_drew ?_)))
          (case side2 => exact (Kd.R_reads' HO219.out).2.1)
          (case side3 => repeat (first | exact (Kd.R_reads' HO222.out).2.2 | (with_reducible refine Kd.C_alloc ?_ _) | (with_reducible refine Kd.C_drewN ?_ _) | (with_reducible refine Kd.C_drew ?_)))
          (case side4 => exact (Kd.R_reads' HO222.out).2.1)
          rintro e w' ⟨rfl, ⟨nd, rfl⟩⟩
          refine ⟨_, rfl, ?_⟩
          refine hK.out _ _ ⟨(blk_cell BK200.out 0).trans rfl, (blk_cell BK201.out 0).trans rfl, (blk_cell BK201.out 1).trans rfl, (blk_cell BK201.out 2).trans rfl, (blk_cell BK201.out 3).trans rfl, (blk_cell BK201.out 4).trans rfl, (blk_cell BK201.out 5).trans rfl, (blk_cell BK201.out 6).trans rfl⟩ (fun hHeld => ?_)
          clear hK K
          refine norm_ (a' := ?_) ?_ ?_
          rotate_left
          ·show Act.put _ (some 63) _ = _
           simp only [Act.put, nrm]
           rfl
          refine pstep 10 (some 64) #[true, true, true, true, true, true, true, true, true, true, true, false, false, false] HT_.out ?_
          refine pure_ (i := 11) (N := some 65) (v := undef) (a' := ?_) #[true, true, true, true, true, true, true, true, true, true, true, true, false, false] rfl rfl (any_of HT_.out (by kernel_rfl)) (fun _ _ _ h => h) (Or.inr ⟨by rfl, rfl⟩) ?_ ?_
          rotate_left
          ·simp only [Act.put, nrm]
           rfl
          refine pstep 12 (some 66) #[true, true, true, true, true, true, true, true, true, true, true, true, true, false] HT_.out ?_
          refine pstep 13 (some 6) #[true, true, true, true, true, true, true, true, true, true, true, true, true, true] HT_.out ?_
          refine done_ (done_of HT_.out (by kernel_rfl)) ?_
          try go_wp2
          go_ret
          exact ⟨by first | rfl | (simp [errW_none, errW_some] <;> rfl) | (simp [*, errW_none, errW_some] <;> rfl), by repeat (first | (with_reducible first | exact HB.out | apply below_alloc | apply pw_below_drewN | apply below_drew1 | refine below_set ?_ GE200.out | refine below_set ?_ GE201.out) | exact HB.out)⟩
        ·rw [if_neg c37] at H
         exact absurd H (by simp)

/-- THE ONE PURE STATEMENT of signalbenchlaw16_NrziIgnores: yours. -/
def signalbenchlaw16_NrziIgnores.Pure : Prop := ∀ (a0_0 : Bool) (l1 : List (S33)) (a2_0 : Int) (a2_1 : Int) (a2_2 : Int) (a2_3 : Int) (a2_4 : Int) (a2_5 : ByteArray) (a2_6 : Int), l1.length ≤ maxLen → l1.length * 64 ≤ 140737488351232 → (∀ x ∈ l1, (Lit.int .i64 x.f0).wf = true ∧ (Lit.int .i64 x.f1).wf = true ∧ (Lit.int .i64 x.f2).wf = true ∧ (Lit.int .i64 x.f3).wf = true ∧ (Lit.int .i64 x.f4).wf = true ∧ x.f5.size ≤ 140737488351232 ∧ (Lit.int .i64 x.f6).wf = true) → (Lit.int .i64 a2_0).wf = true → (Lit.int .i64 a2_1).wf = true → (Lit.int .i64 a2_2).wf = true → (Lit.int .i64 a2_3).wf = true → (Lit.int .i64 a2_4).wf = true → a2_5.size ≤ 140737488351232 → (Lit.int .i64 a2_6).wf = true → ∃ k, signalbenchlaw16_NrziIgnores.f k a0_0 l1 a2_0 a2_1 a2_2 a2_3 a2_4 a2_5 a2_6 = some true
theorem signalbenchlaw16_NrziIgnores.walk (P : signalbenchlaw16_NrziIgnores.Pure) (a0_0 : Bool) (A1 : Option Addr) (c1 : Nat) (l1 : List (S33)) (a2_0 : Int) (a2_1 : Int) (a2_2 : Int) (a2_3 : Int) (a2_4 : Int) (a2_5 : ByteArray) (a2_6 : Int) (w : World) (hr1 : Kd.C k33 w A1 l1.length l1) (hc1 : l1.length ≤ c1) (w0_ : l1.length ≤ maxLen) (w1_ : l1.length * 64 ≤ 140737488351232) (w2_ : (∀ x ∈ l1, (Lit.int .i64 x.f0).wf = true ∧ (Lit.int .i64 x.f1).wf = true ∧ (Lit.int .i64 x.f2).wf = true ∧ (Lit.int .i64 x.f3).wf = true ∧ (Lit.int .i64 x.f4).wf = true ∧ x.f5.size ≤ 140737488351232 ∧ (Lit.int .i64 x.f6).wf = true)) (w3_ : (Lit.int .i64 a2_0).wf = true) (w4_ : (Lit.int .i64 a2_1).wf = true) (w5_ : (Lit.int .i64 a2_2).wf = true) (w6_ : (Lit.int .i64 a2_3).wf = true) (w7_ : (Lit.int .i64 a2_4).wf = true) (w8_ : a2_5.size ≤ 140737488351232) (w9_ : (Lit.int .i64 a2_6).wf = true) :
  Calls Try.prog 6 #[.agg #[.bool a0_0], .slice A1 l1.length c1, .agg #[.int .i64 a2_0, .int .i64 a2_1, .int .i64 a2_2, .int .i64 a2_3, .int .i64 a2_4, .string a2_5, .int .i64 a2_6]] w fun e w' => e = .returned (.bool true) ∧ Below w.heap.size w w' := by
 obtain ⟨k, h⟩ := P a0_0 l1 a2_0 a2_1 a2_2 a2_3 a2_4 a2_5 a2_6 w0_ w1_ w2_ w3_ w4_ w5_ w6_ w7_ w8_ w9_
 refine (signalbenchlaw16_NrziIgnores.calls k a0_0 A1 c1 l1 a2_0 a2_1 a2_2 a2_3 a2_4 a2_5 a2_6 true w hr1 hc1 h).mono ?_
 rintro e w' ⟨rfl, hd⟩
 exact ⟨rfl, hd⟩

end Go.Proofs.Ytjgfhccibljkbaa.PNrziIgnores
