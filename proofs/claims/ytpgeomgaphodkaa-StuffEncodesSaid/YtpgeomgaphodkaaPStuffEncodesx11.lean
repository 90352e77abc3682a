-- Written by a program of this session (wip/tools/pr.py), which calls the kit's print with changes of its own.
import Derived.Test.YtpgeomgaphodkaaPStuffEncodesx0
import Derived.Test.YtpgeomgaphodkaaPStuffEncodesx9
import Derived.Test.YtpgeomgaphodkaaPStuffEncodesx10
namespace Go.Proofs.Ytpgeomgaphodkaa.PStuffEncodes
open Go.RowKit Go.Proofs.YtpgeomgaphodkaaW.PrintWords Go.Proofs.YtpgeomgaphodkaaW.PrintLast Go.Proofs.YtpgeomgaphodkaaW.PrintMore
attribute [local go_sem] max2_int min2_int max_two min_two max_three min_three max_four min_four   -- for this text's walks alone
set_option linter.unusedVariables false
set_option linter.unusedSimpArgs false

/-! ### signalbenchref19_Encode: function 22 -/
mutual
def signalbenchref19_Encode.j0 : Nat → List (S45) → Int → Bool → Option ((List (S45)) × Int)
 | 0, _, _, _ => none
 | k + 1, x1, x238000, x238001 => if (x1.length : Int) > 1024 then (some (([] : List (S45)), 6)) else (signalbenchref19_Encode.j1 k x1 x238000 x238001)
def signalbenchref19_Encode.j1 : Nat → List (S45) → Int → Bool → Option ((List (S45)) × Int)
 | 0, _, _, _ => none
 | k + 1, x1, x238000, x238001 => signalbenchref19_Encode.l0 k x1 (([] : List (S45))) 0 x238000 x238001 0 0
def signalbenchref19_Encode.l0 : Nat → List (S45) → List (S45) → Int → Int → Bool → Int → Int → Option ((List (S45)) × Int)
 | 0, _, _, _, _, _, _, _ => none
 | k + 1, x1, x7, x9, x238000, x238001, x243000, x243001 => if x9 < (x1.length : Int) then (signalbenchref19_Encode.j3 k x1 x7 x9 x238000 x238001 x243000 x243001) else (some (x7, 0))
def signalbenchref19_Encode.j3 : Nat → List (S45) → List (S45) → Int → Int → Bool → Int → Int → Option ((List (S45)) × Int)
 | 0, _, _, _, _, _, _, _ => none
 | k + 1, x1, x7, x9, x238000, x238001, x243000, x243001 => if 0 ≤ x9 then (if x9 < (x1.length : Int) then ((signalbenchref19_wrong.f k ((rd_T45 x1 x9).f0) ((rd_T45 x1 x9).f1) ((rd_T45 x1 x9).f2) ((rd_T45 x1 x9).f3) ((rd_T45 x1 x9).f4)).bind fun t244 => (if t244 = 0 then ((signalbenchref19_Insert.f k x238000 x238001 x243000 x243001 ((rd_T45 x1 x9).f3) (((rd_T45 x1 x9).f4) == 4)).bind fun bt247 => (if ((rd_T45 x1 x9).f4) = 4 then (signalbenchref19_Encode.j4 k x1 x7 x9 bt247.1 (!bt247.2.2.2) x238000 x238001 bt247.2.1 bt247.2.2.1) else (signalbenchref19_Encode.j4 k x1 x7 x9 bt247.1 false x238000 x238001 bt247.2.1 bt247.2.2.1))) else (some (([] : List (S45)), t244)))) else (none)) else (none)
def signalbenchref19_Encode.j4 : Nat → List (S45) → List (S45) → Int → ByteArray → Bool → Int → Bool → Int → Int → Option ((List (S45)) × Int)
 | 0, _, _, _, _, _, _, _, _, _ => none
 | k + 1, x1, x7, x9, x11, x65, x238000, x238001, x252000, x252001 => if x65 = true then (some (([] : List (S45)), 17)) else (if (x11.size : Int) > 4096 then (some (([] : List (S45)), 6)) else (if 0 ≤ x9 then (if x9 < (x1.length : Int) then (if ((rd_T45 x1 x9).f1) = 0 then (if ((rd_T45 x1 x9).f2) = 0 then (if x7.length < 2932031007402 then (signalbenchref19_Encode.l0 k x1 (x7 ++ [(⟨(rd_T45 x1 x9).f0, 0, 0, x11, 0⟩ : S45)]) (wrap64 (x9 + 1)) x238000 x238001 x252000 x252001) else (none)) else (some (([] : List (S45)), 1))) else (some (([] : List (S45)), 1))) else (none)) else (none)))
end
def signalbenchref19_Encode.f (k : Nat) (a0_0 : Int) (a0_1 : Bool) (l1 : List (S45)) : Option ((List (S45)) × Int) := (signalbenchref19_Check.f a0_0 a0_1).bind fun t238 => (if t238 = 0 then (signalbenchref19_Encode.j0 k l1 a0_0 a0_1) else (some (([] : List (S45)), t238)))
theorem signalbenchref19_Encode.mono_l : ∀ k, (∀ y0 y1 y2, LeO (signalbenchref19_Encode.j0 k y0 y1 y2) (signalbenchref19_Encode.j0 (k + 1) y0 y1 y2)) ∧ (∀ y0 y1 y2, LeO (signalbenchref19_Encode.j1 k y0 y1 y2) (signalbenchref19_Encode.j1 (k + 1) y0 y1 y2)) ∧ (∀ y0 y1 y2 y3 y4 y5 y6, LeO (signalbenchref19_Encode.l0 k y0 y1 y2 y3 y4 y5 y6) (signalbenchref19_Encode.l0 (k + 1) y0 y1 y2 y3 y4 y5 y6)) ∧ (∀ y0 y1 y2 y3 y4 y5 y6, LeO (signalbenchref19_Encode.j3 k y0 y1 y2 y3 y4 y5 y6) (signalbenchref19_Encode.j3 (k + 1) y0 y1 y2 y3 y4 y5 y6)) ∧ (∀ y0 y1 y2 y3 y4 y5 y6 y7 y8, LeO (signalbenchref19_Encode.j4 k y0 y1 y2 y3 y4 y5 y6 y7 y8) (signalbenchref19_Encode.j4 (k + 1) y0 y1 y2 y3 y4 y5 y6 y7 y8))
 | 0 => ⟨fun _ _ _ r h => by simp [signalbenchref19_Encode.j0] at h, fun _ _ _ r h => by simp [signalbenchref19_Encode.j1] at h, fun _ _ _ _ _ _ _ r h => by simp [signalbenchref19_Encode.l0] at h, fun _ _ _ _ _ _ _ r h => by simp [signalbenchref19_Encode.j3] at h, fun _ _ _ _ _ _ _ _ _ r h => by simp [signalbenchref19_Encode.j4] at h⟩
 | k + 1 => by
  obtain ⟨ih0, ih1, ih2, ih3, ih4⟩ := signalbenchref19_Encode.mono_l k
  refine ⟨?_, ?_, ?_, ?_, ?_⟩
  ·intro y0 y1 y2
   unfold signalbenchref19_Encode.j0
   repeat' first
   | (with_reducible exact ih0 _ _ _)
   | (with_reducible exact ih1 _ _ _)
   | (with_reducible exact ih2 _ _ _ _ _ _ _)
   | (with_reducible exact ih3 _ _ _ _ _ _ _)
   | (with_reducible exact ih4 _ _ _ _ _ _ _ _ _)
   | (with_reducible exact signalbenchref19_Insert.mono _ _ _ _ _ _ _)
   | (with_reducible exact signalbenchref19_wrong.mono _ _ _ _ _ _)
   | (with_reducible exact LeO.refl _)
   | (with_reducible exact LeO.none _)
   | (with_reducible refine LeO.ite ?_ ?_)
   | (with_reducible refine LeO.bind ?_ (fun _ => ?_))
   | exact ih0 _ _ _
   | exact ih1 _ _ _
   | exact ih2 _ _ _ _ _ _ _
   | exact ih3 _ _ _ _ _ _ _
   | exact ih4 _ _ _ _ _ _ _ _ _
   | exact signalbenchref19_Insert.mono _ _ _ _ _ _ _
   | exact signalbenchref19_wrong.mono _ _ _ _ _ _
   | exact LeO.none _
   | refine LeO.ite ?_ ?_
   | refine LeO.bind ?_ (fun _ => ?_)
  ·intro y0 y1 y2
   unfold signalbenchref19_Encode.j1
   repeat' first
   | (with_reducible exact ih0 _ _ _)
   | (with_reducible exact ih1 _ _ _)
   | (with_reducible exact ih2 _ _ _ _ _ _ _)
   | (with_reducible exact ih3 _ _ _ _ _ _ _)
   | (with_reducible exact ih4 _ _ _ _ _ _ _ _ _)
   | (with_reducible exact signalbenchref19_Insert.mono _ _ _ _ _ _ _)
   | (with_reducible exact signalbenchref19_wrong.mono _ _ _ _ _ _)
   | (with_reducible exact LeO.refl _)
   | (with_reducible exact LeO.none _)
   | (with_reducible refine LeO.ite ?_ ?_)
   | (with_reducible refine LeO.bind ?_ (fun _ => ?_))
   | exact ih0 _ _ _
   | exact ih1 _ _ _
   | exact ih2 _ _ _ _ _ _ _
   | exact ih3 _ _ _ _ _ _ _
   | exact ih4 _ _ _ _ _ _ _ _ _
   | exact signalbenchref19_Insert.mono _ _ _ _ _ _ _
   | exact signalbenchref19_wrong.mono _ _ _ _ _ _
   | exact LeO.none _
   | refine LeO.ite ?_ ?_
   | refine LeO.bind ?_ (fun _ => ?_)
  ·intro y0 y1 y2 y3 y4 y5 y6
   unfold signalbenchref19_Encode.l0
   repeat' first
   | (with_reducible exact ih0 _ _ _)
   | (with_reducible exact ih1 _ _ _)
   | (with_reducible exact ih2 _ _ _ _ _ _ _)
   | (with_reducible exact ih3 _ _ _ _ _ _ _)
   | (with_reducible exact ih4 _ _ _ _ _ _ _ _ _)
   | (with_reducible exact signalbenchref19_Insert.mono _ _ _ _ _ _ _)
   | (with_reducible exact signalbenchref19_wrong.mono _ _ _ _ _ _)
   | (with_reducible exact LeO.refl _)
   | (with_reducible exact LeO.none _)
   | (with_reducible refine LeO.ite ?_ ?_)
   | (with_reducible refine LeO.bind ?_ (fun _ => ?_))
   | exact ih0 _ _ _
   | exact ih1 _ _ _
   | exact ih2 _ _ _ _ _ _ _
   | exact ih3 _ _ _ _ _ _ _
   | exact ih4 _ _ _ _ _ _ _ _ _
   | exact signalbenchref19_Insert.mono _ _ _ _ _ _ _
   | exact signalbenchref19_wrong.mono _ _ _ _ _ _
   | exact LeO.none _
   | refine LeO.ite ?_ ?_
   | refine LeO.bind ?_ (fun _ => ?_)
  ·intro y0 y1 y2 y3 y4 y5 y6
   unfold signalbenchref19_Encode.j3
   repeat' first
   | (with_reducible exact ih0 _ _ _)
   | (with_reducible exact ih1 _ _ _)
   | (with_reducible exact ih2 _ _ _ _ _ _ _)
   | (with_reducible exact ih3 _ _ _ _ _ _ _)
   | (with_reducible exact ih4 _ _ _ _ _ _ _ _ _)
   | (with_reducible exact signalbenchref19_Insert.mono _ _ _ _ _ _ _)
   | (with_reducible exact signalbenchref19_wrong.mono _ _ _ _ _ _)
   | (with_reducible exact LeO.refl _)
   | (with_reducible exact LeO.none _)
   | (with_reducible refine LeO.ite ?_ ?_)
   | (with_reducible refine LeO.bind ?_ (fun _ => ?_))
   | exact ih0 _ _ _
   | exact ih1 _ _ _
   | exact ih2 _ _ _ _ _ _ _
   | exact ih3 _ _ _ _ _ _ _
   | exact ih4 _ _ _ _ _ _ _ _ _
   | exact signalbenchref19_Insert.mono _ _ _ _ _ _ _
   | exact signalbenchref19_wrong.mono _ _ _ _ _ _
   | exact LeO.none _
   | refine LeO.ite ?_ ?_
   | refine LeO.bind ?_ (fun _ => ?_)
  ·intro y0 y1 y2 y3 y4 y5 y6 y7 y8
   unfold signalbenchref19_Encode.j4
   repeat' first
   | (with_reducible exact ih0 _ _ _)
   | (with_reducible exact ih1 _ _ _)
   | (with_reducible exact ih2 _ _ _ _ _ _ _)
   | (with_reducible exact ih3 _ _ _ _ _ _ _)
   | (with_reducible exact ih4 _ _ _ _ _ _ _ _ _)
   | (with_reducible exact signalbenchref19_Insert.mono _ _ _ _ _ _ _)
   | (with_reducible exact signalbenchref19_wrong.mono _ _ _ _ _ _)
   | (with_reducible exact LeO.refl _)
   | (with_reducible exact LeO.none _)
   | (with_reducible refine LeO.ite ?_ ?_)
   | (with_reducible refine LeO.bind ?_ (fun _ => ?_))
   | exact ih0 _ _ _
   | exact ih1 _ _ _
   | exact ih2 _ _ _ _ _ _ _
   | exact ih3 _ _ _ _ _ _ _
   | exact ih4 _ _ _ _ _ _ _ _ _
   | exact signalbenchref19_Insert.mono _ _ _ _ _ _ _
   | exact signalbenchref19_wrong.mono _ _ _ _ _ _
   | exact LeO.none _
   | refine LeO.ite ?_ ?_
   | refine LeO.bind ?_ (fun _ => ?_)
theorem signalbenchref19_Encode.mono : ∀ a0 a1 a2 k, LeO (signalbenchref19_Encode.f k a0 a1 a2) (signalbenchref19_Encode.f (k + 1) a0 a1 a2) := by
 intro a0 a1 a2 k
 obtain ⟨ih0, ih1, ih2, ih3, ih4⟩ := signalbenchref19_Encode.mono_l k
 unfold signalbenchref19_Encode.f
 repeat' first
   | (with_reducible exact ih0 _ _ _)
   | (with_reducible exact ih1 _ _ _)
   | (with_reducible exact ih2 _ _ _ _ _ _ _)
   | (with_reducible exact ih3 _ _ _ _ _ _ _)
   | (with_reducible exact ih4 _ _ _ _ _ _ _ _ _)
   | (with_reducible exact signalbenchref19_Insert.mono _ _ _ _ _ _ _)
   | (with_reducible exact signalbenchref19_wrong.mono _ _ _ _ _ _)
   | (with_reducible exact LeO.refl _)
   | (with_reducible exact LeO.none _)
   | (with_reducible refine LeO.ite ?_ ?_)
   | (with_reducible refine LeO.bind ?_ (fun _ => ?_))
   | exact ih0 _ _ _
   | exact ih1 _ _ _
   | exact ih2 _ _ _ _ _ _ _
   | exact ih3 _ _ _ _ _ _ _
   | exact ih4 _ _ _ _ _ _ _ _ _
   | exact signalbenchref19_Insert.mono _ _ _ _ _ _ _
   | exact signalbenchref19_wrong.mono _ _ _ _ _ _
   | exact LeO.none _
   | refine LeO.ite ?_ ?_
   | refine LeO.bind ?_ (fun _ => ?_)
def signalbenchref19_Encode.T13 : Bool × List (List Nat × List Nat) := (true, [([], []), ([], []), ([], []), ([], []), ([2, 3], [2, 3]), ([4], [4]), ([5], [5]), ([], []), ([], []), ([7, 8], [7, 8]), ([9], [9]), ([10], [10]), ([11], [11]), ([0, 1, 6, 12], [0, 1, 6, 12]), ([13], [13]), ([14], [14]), ([14], [14]), ([14], [14]), ([], []), ([15, 13, 0, 1, 2, 3, 4, 5, 6, 7, 8, 9, 10, 11, 12, 13, 14, 15, 18], [15]), ([18, 16, 19, 0, 1, 2, 3, 4, 5, 6, 7, 8, 9, 10, 11, 12, 13, 14, 15, 16, 18, 19], [16, 18]), ([17, 20, 0, 1, 2, 3, 4, 5, 6, 7, 8, 9, 10, 11, 12, 13, 14, 15, 16, 17, 18, 19, 20], [17])])
def signalbenchref19_Encode.B13 : List Nat := [0, 0, 0, 0, 12, 28, 60, 0, 0, 384, 896, 1920, 3968, 8191, 16383, 32767, 32767, 32767, 0, 327679, 917503, 2097151]
theorem signalbenchref19_Encode.tab13 : rtab .any (opsOf Try.f22 13) = signalbenchref19_Encode.T13 := by kernel_rfl
theorem signalbenchref19_Encode.bits13 : waitsOk signalbenchref19_Encode.T13.2 signalbenchref19_Encode.B13 = true := by kernel_rfl
set_option maxHeartbeats 8000000 in
set_option maxRecDepth 100000 in
theorem signalbenchref19_Encode.calls (k : Nat) (a0_0 : Int) (a0_1 : Bool) (A1 : Option Addr) (c1 : Nat) (l1 : List (S45)) (r1 : List (S45)) (r2 : Int) (w : World) (hr1 : Kd.C k45 w A1 l1.length l1) (hc1 : l1.length ≤ c1) (h : signalbenchref19_Encode.f k a0_0 a0_1 l1 = some (r1, r2)) :
  Calls Try.prog 22 #[.agg #[.int .i64 a0_0, .bool a0_1], .slice A1 l1.length c1] w fun e w' => ∃ v0_ : Value, e = .returned (.tuple #[v0_, .int .i64 r2]) ∧ Kd.R k45 45 w' w.heap.size (fun _ => True) v0_ r1 ∧ Below w.heap.size w w' := by
 have hu23 := Try.underlying23
 have hu57 := Try.underlying57
 have hu45 := Try.underlying45
 have HR1 := Aside0.mk hr1
 have HC1 := Aside0.mk hc1
 clear hr1 hc1
 have HB := Aside0.mk (Below.refl w.heap.size w)
 have H : ((signalbenchref19_Check.f a0_0 a0_1).bind fun t238 => (if t238 = 0 then (signalbenchref19_Encode.j0 k l1 a0_0 a0_1) else (some (([] : List (S45)), t238)))) = some (r1, r2) := h
 clear h
 replace H := Option.bind_eq_some_iff.mp H
 obtain ⟨t238, A30, H⟩ := H
 replace H : (if t238 = 0 then (signalbenchref19_Encode.j0 k l1 a0_0 a0_1) else (some (([] : List (S45)), t238))) = some (r1, r2) := H
 have A3 := Aside0.mk A30
 clear A30
 have HC4 := Aside0.mk H
 clear H
 go_enter Try.func22, Try.ntmps22
 go_upto_if 17 with (first | ((with_reducible refine gate_dst (N := 2) rfl ?_); refine box_event ?hg (N := 2) ?hd (cs := #[.int .i64 a0_0, .bool a0_1]) (t := 23) ?hr ?_; (case hd => rfl); (case hg => rfl); (case hr => first | (go_simp; done) | (go_simp; rfl)); intro gb237 hg w5 hbox hb; have n0_ := Aside0.mk (below_step (hbw HB.out) hb); have n1_ := Aside0.mk (hbox); have n2_ := Aside0.mk ((by rw [hg]; exact (below_size (hbw HB.out)) : w.heap.size ≤ gb237)); have n3_ := Aside0.mk ((by rw [hg]; exact (below_size (hbw HB.out)) : w.heap.size ≤ gb237)); clear HB; have HB := n0_; have BK237 := n1_; have GW237 := n2_; have GE237 := n3_; clear n0_ n1_ n2_ n3_; clear hb hbox hg; have hcz6_0 : w5.cell? ⟨gb237, 0, none⟩ = some (.int .i64 a0_0) := (blk_cell BK237.out 0).trans rfl; have hcz6_1 : w5.cell? ⟨gb237, 1, none⟩ = some (.bool a0_1) := (blk_cell BK237.out 1).trans rfl; have hfz6_0 := blk_frozen BK237.out 0; have hfz6_1 := blk_frozen BK237.out 1) | ((with_reducible refine gate_callee (f := 16) rfl ?_); refine goesL_ (some 15) rfl rfl Try.func16 (by kernel_rfl) rfl #[.agg #[.int .i64 a0_0, .bool a0_1]] rfl (by (try simp only [List.map_toArray, List.map_cons, List.map_nil]); first | done | rfl | (simp only [List.length_drop, List.length_take]; rfl)) ?_; (with_reducible refine (signalbenchref19_Check.calls a0_0 a0_1 t238 _ A3.out).mono ?_); rintro e w7 ⟨rfl, hb⟩; refine ⟨_, rfl, ?_⟩; have n0_ := Aside0.mk (blkb BK237.out hb); have n1_ := Aside0.mk (below_step (hbw HB.out) hb); clear BK237; clear HB; have BK237 := n0_; have HB := n1_; clear n0_ n1_; (try clear hb); (try clear hb2); (try clear hk); (try clear hi)))
 (try simp only [Act.put, List.setIfInBounds_toArray, List.set_cons_zero, List.set_cons_succ])
 go_cut [] (fun wc => ∃ (kq : Nat), Aside0 (signalbenchref19_Encode.j0 kq l1 a0_0 a0_1 = some (r1, r2)) ∧ Aside0 (kq ≤ k) ∧ Aside0 (wc.heap[gb237]? = some (.cells #[.int .i64 a0_0, .bool a0_1] 23 (0, 0))) ∧ Aside0 (Below w.heap.size w wc))
 case first =>
  have H := HC4.out
  clear HC4
  by_cases c8 : t238 = 0
  ·rw [if_pos c8] at H
   have c8b0 : (t238 == 0) = true := beq_iff_eq.mpr c8
   have c8b1 : (t238 != 0) = false := bne_eq_false_iff_eq.mpr c8
   clear c8
   (first | rw [c8b0] | (simp only [i64_w, i32_w]; rw [c8b0]) | skip)
   have H' := Aside0.mk H
   clear H
   go_wp2
   go_meet
   case rel => exact ⟨_, H', ⟨by first | omega | exact Nat.le_refl _⟩, ⟨by (with_reducible repeat (first | refine blk_drewN ?_ _ | refine blk_drew ?_ | refine blk_alloc ?_ _)); exact BK237.out⟩, ⟨by repeat (first | (with_reducible first | exact HB.out | apply below_alloc | apply pw_below_drewN | apply below_drew1 | refine below_set ?_ GE237.out) | exact HB.out)⟩⟩
  ·rw [if_neg c8] at H
   have c8b0 : (t238 == 0) = false := beq_eq_false_iff_ne.mpr c8
   have c8b1 : (t238 != 0) = true := bne_iff_ne.mpr c8
   (first | rw [c8b0] | (simp only [i64_w, i32_w]; rw [c8b0]) | skip)
   simp only [Option.some.injEq, Prod.mk.injEq] at H
   obtain ⟨rfl, rfl⟩ := H
   go_wp2
   go_ret2
   exact ⟨_, by first | rfl | (simp [errW_none, errW_some] <;> rfl) | (simp [*, errW_none, errW_some] <;> rfl), by first | exact Kd.R_nil _ _ _ _ _ | exact Kd.N_nil _ _ _ _ _ | exact Kd.V_nil _ _ _ _ _ | exact Kd.Q_nil _ _ _ _ _ | exact Kd.S_nil _ _ _ _ _, by repeat (first | (with_reducible first | exact HB.out | apply below_alloc | apply pw_below_drewN | apply below_drew1 | refine below_set ?_ GE237.out) | exact HB.out)⟩
 case rest =>
  clear HC4
  try clear c1
  try clear c2
  try clear p2
  try clear c8
  try clear c8b0
  try clear c8b1
  try clear hcz6_0
  try clear hcz6_1
  try clear hfz6_0
  try clear hfz6_1
  obtain ⟨kq, HA, HJ3, BK237, HB⟩ := hcut
  cases kq with
  | zero => exact absurd HA.out (by simp [signalbenchref19_Encode.j0])
  | succ kj3 =>
   have H := HA.out
   clear HA
   simp only [signalbenchref19_Encode.j0] at H
   have HC9 := Aside0.mk H
   clear H
   go_upto_if 21 with (fail)
   go_cut [] (fun wc => ∃ (kq : Nat), Aside0 (signalbenchref19_Encode.j1 kq l1 a0_0 a0_1 = some (r1, r2)) ∧ Aside0 (kq ≤ kj3) ∧ Aside0 (wc.heap[gb237]? = some (.cells #[.int .i64 a0_0, .bool a0_1] 23 (0, 0))) ∧ Aside0 (Below w.heap.size w wc))
   case first =>
    have H := HC9.out
    clear HC9
    by_cases c10 : (l1.length : Int) > 1024
    ·rw [if_pos c10] at H
     have c10b0 : decide (1024 < (l1.length : Int)) = true := decide_eq_true c10
     have c10b1 : decide (1024 < l1.length) = true := decide_eq_true (by omega)
     clear c10
     (first | rw [c10b0] | (simp only [i64_w, i32_w]; rw [c10b0]) | skip)
     simp only [Option.some.injEq, Prod.mk.injEq] at H
     obtain ⟨rfl, rfl⟩ := H
     go_wp2
     go_ret2
     exact ⟨_, by first | rfl | (simp [errW_none, errW_some] <;> rfl) | (simp [*, errW_none, errW_some] <;> rfl), by first | exact Kd.R_nil _ _ _ _ _ | exact Kd.N_nil _ _ _ _ _ | exact Kd.V_nil _ _ _ _ _ | exact Kd.Q_nil _ _ _ _ _ | exact Kd.S_nil _ _ _ _ _, by repeat (first | (with_reducible first | exact HB.out | apply below_alloc | apply pw_below_drewN | apply below_drew1 | refine below_set ?_ GE237.out) | exact HB.out)⟩
    ·rw [if_neg c10] at H
     have c10b0 : decide (1024 < (l1.length : Int)) = false := decide_eq_false c10
     have c10b1 : decide (1024 < l1.length) = false := decide_eq_false (by omega)
     clear c10
     (first | rw [c10b0] | (simp only [i64_w, i32_w]; rw [c10b0]) | skip)
     have H' := Aside0.mk H
     clear H
     go_wp2
     go_meet
     case rel => exact ⟨_, H', ⟨by have := HJ3.out; first | omega | exact Nat.le_refl _⟩, ⟨by (with_reducible repeat (first | refine blk_drewN ?_ _ | refine blk_drew ?_ | refine blk_alloc ?_ _)); exact BK237.out⟩, ⟨by repeat (first | (with_reducible first | exact HB.out | apply below_alloc | apply pw_below_drewN | apply below_drew1 | refine below_set ?_ GE237.out) | exact HB.out)⟩⟩
   case rest =>
    clear HC9
    try clear c1
    try clear c2
    try clear p2
    try clear c8
    try clear c8b0
    try clear c8b1
    try clear c10
    try clear c10b0
    try clear c10b1
    try clear hcz6_0
    try clear hcz6_1
    try clear hfz6_0
    try clear hfz6_1
    try clear p2
    obtain ⟨kq, HA, HJ8, BK237, HB⟩ := hcut
    cases kq with
    | zero => exact absurd HA.out (by simp [signalbenchref19_Encode.j1])
    | succ kj8 =>
     have H := HA.out
     clear HA
     simp only [signalbenchref19_Encode.j1] at H
     obtain ⟨y239, hy239⟩ : ∃ y_ : List (S45), y_ = (([] : List (S45))) := ⟨_, rfl⟩
     replace H : (signalbenchref19_Encode.l0 kj8 l1 y239 0 a0_0 a0_1 0 0) = some (r1, r2) := by first | (rw [hy239]; with_reducible exact H) | (have H2_ := (Option.bind_some _ _).symm.trans H; rw [hy239]; with_reducible exact H2_) | (have H2_ := (Option.bind_some _ _).symm.trans H; with_reducible exact H2_) | with_reducible exact H | (rw [hy239]; exact H) | exact H
     have Ny239 := Aside0.mk hy239
     clear hy239
     have H' := Aside0.mk H
     clear H
     go_wp2_with (first | ((with_reducible refine gate_dst (N := 22) rfl ?_); refine Kd.R_lit k45 _ 45 ?hg (N := 22) ?hd (xs := ([] : List (S45))) (inner := []) (ok := fun _ => True) (okp := fun _ => True) ?hr ?hp (fun _ hk => hk) trivial (Below.refl _ _) (Nat.le_refl _) (by simp) ?_; (case hd => rfl); (case hg => rfl); (case hr => first | (go_simp; done) | (go_simp; rfl)); (case hp => exact (Reps.none _ _)); intro v240 w11 ho12 hb hg_ hnew_; clear hg_ hnew_; (first | rw [← Ny239.out] at ho12 | (simp only [Int.reduceToNat] at ho12; rw [← Ny239.out] at ho12)); have n0_ := Aside0.mk (Kd.R_lower ho12 (below_size (hbw HB.out))); have n1_ := Aside0.mk (blkb BK237.out hb); have n2_ := Aside0.mk (below_step (hbw HB.out) hb); clear BK237; clear HB; have HO241 := n0_; have BK237 := n1_; have HB := n2_; clear n0_ n1_ n2_; clear hb ho12) | ((with_reducible refine gate_dst (N := 8) rfl ?_); refine box_event ?hg (N := 8) ?hd (cs := #[.int .i64 0, .int .i64 0]) (t := 57) ?hr ?_; (case hd => rfl); (case hg => rfl); (case hr => first | (go_simp; done) | (go_simp; rfl)); intro gb242 hg w13 hbox hb; have n0_ := Aside0.mk (Kd.R_below (rkw HO241.out) hb); have n1_ := Aside0.mk (blkb BK237.out hb); have n2_ := Aside0.mk (below_step (hbw HB.out) hb); have n3_ := Aside0.mk (hbox); have n4_ := Aside0.mk ((by rw [hg]; exact (below_size (hbw HB.out)) : w.heap.size ≤ gb242)); have n5_ := Aside0.mk ((by rw [hg]; exact (below_size (hbw HB.out)) : w.heap.size ≤ gb242)); have n6_ := Aside0.mk ((by rw [hg]; exact Nat.ne_of_lt (blkl BK237.out) : gb237 ≠ gb242)); have n7_ := Aside0.mk ((by rw [hg]; exact Nat.ne_of_gt (blkl BK237.out) : gb242 ≠ gb237)); clear HO241; clear BK237; clear HB; have HO241 := n0_; have BK237 := n1_; have HB := n2_; have BK242 := n3_; have GW242 := n4_; have GE242 := n5_; have NB237_242 := n6_; have NB242_237 := n7_; clear n0_ n1_ n2_ n3_ n4_ n5_ n6_ n7_; clear hb hbox hg; have hnb14 := NB242_237.out; have hnc14 := NB237_242.out; have hcz15_0 : w13.cell? ⟨gb242, 0, none⟩ = some (.int .i64 0) := (blk_cell BK242.out 0).trans rfl; have hcz15_1 : w13.cell? ⟨gb242, 1, none⟩ = some (.int .i64 0) := (blk_cell BK242.out 1).trans rfl; have hfz15_0 := blk_frozen BK242.out 0; have hfz15_1 := blk_frozen BK242.out 1))
     go_loopg [7, 9] kj8 (fun kq v7 v9 w' => ∃ (x7_3 : List (S45)) (x9_3 : Int) (x243000_3 : Int) (x243001_3 : Int), v9 = .int .i64 x9_3 ∧ Aside0 (signalbenchref19_Encode.l0 kq l1 x7_3 x9_3 a0_0 a0_1 x243000_3 x243001_3 = some (r1, r2)) ∧ Aside0 (kq ≤ kj8) ∧ Aside0 (Kd.R k45 45 w' w.heap.size (fun _ => True) v7 x7_3) ∧ Aside0 (w'.heap[gb237]? = some (.cells #[.int .i64 a0_0, .bool a0_1] 23 (0, 0))) ∧ Aside0 (w'.heap[gb242]? = some (.cells #[.int .i64 x243000_3, .int .i64 x243001_3] 57 (0, 0))) ∧ Aside0 (Below w.heap.size w w'))
     case atStart => exact ⟨(y239), (0), (0), (0), (by first | rfl | (simp; done) | (simp [*]; done)), H', ⟨Nat.le_refl _⟩, ⟨by (with_reducible repeat (first | apply Kd.R_alloc | apply Kd.R_drewN | apply Kd.R_drew)); exact Kd.R_mono (Kd.R_far (p := ⟨gb242, 1, none⟩) (Kd.R_far (p := ⟨gb242, 0, none⟩) (Kd.R_types HO241.out BK242.out (by decide)) (fun _ hk => hk.2) (.int .i64 0)) (fun _ hk => hk.2) (.int .i64 0)) (fun _ hk => trivial)⟩, ⟨by (with_reducible repeat (first | refine blk_drewN ?_ _ | refine blk_drew ?_ | refine blk_alloc ?_ _)); refine blk_far ?_ NB237_242.out _; (with_reducible repeat (first | refine blk_drewN ?_ _ | refine blk_drew ?_ | refine blk_alloc ?_ _)); refine blk_far ?_ NB237_242.out _; (with_reducible repeat (first | refine blk_drewN ?_ _ | refine blk_drew ?_ | refine blk_alloc ?_ _)); exact BK237.out⟩, ⟨by (with_reducible repeat (first | refine blk_drewN ?_ _ | refine blk_drew ?_ | refine blk_alloc ?_ _)); refine blk_put (cs := #[.int .i64 0, .int .i64 0]) ?_ 1 _ rfl; (with_reducible repeat (first | refine blk_drewN ?_ _ | refine blk_drew ?_ | refine blk_alloc ?_ _)); refine blk_put (cs := #[.int .i64 0, .int .i64 0]) ?_ 0 _ rfl; (with_reducible repeat (first | refine blk_drewN ?_ _ | refine blk_drew ?_ | refine blk_alloc ?_ _)); exact BK242.out⟩, ⟨by repeat (first | (with_reducible first | exact HB.out | apply below_alloc | apply pw_below_drewN | apply below_drew1 | refine below_set ?_ GE237.out | refine below_set ?_ GE242.out) | exact HB.out)⟩⟩
     case round =>
      clear H'
      try clear c1
      try clear c2
      try clear p2
      try clear c8
      try clear c8b0
      try clear c8b1
      try clear c10
      try clear c10b0
      try clear c10b1
      try clear c14
      try clear hcz15_0
      try clear hcz15_1
      try clear hcz6_0
      try clear hcz6_1
      try clear hfz15_0
      try clear hfz15_1
      try clear hfz6_0
      try clear hfz6_1
      try clear p2
      obtain ⟨x7_3, x9_3, x243000_3, x243001_3, rfl, HA, HK3, HO_7, BK237, BK242, HB⟩ := hrel
      cases gk with
      | zero => exact absurd HA.out (by simp [signalbenchref19_Encode.l0])
      | succ k3 =>
       have H := HA.out
       clear HA
       simp only [signalbenchref19_Encode.l0] at H
       have HC16 := Aside0.mk H
       clear H
       go_upto_if 27 with (fail)
       go_cut [] (fun wc => ∃ (kq : Nat), Aside0 (signalbenchref19_Encode.j3 kq l1 x7_3 x9_3 a0_0 a0_1 x243000_3 x243001_3 = some (r1, r2)) ∧ Aside0 (kq ≤ k3) ∧ Aside0 (Kd.R k45 45 wc w.heap.size (fun _ => True) u7 x7_3) ∧ Aside0 (wc.heap[gb237]? = some (.cells #[.int .i64 a0_0, .bool a0_1] 23 (0, 0))) ∧ Aside0 (wc.heap[gb242]? = some (.cells #[.int .i64 x243000_3, .int .i64 x243001_3] 57 (0, 0))) ∧ Aside0 (Below w.heap.size w wc))
       case first =>
        have H := HC16.out
        clear HC16
        by_cases c17 : x9_3 < (l1.length : Int)
        ·rw [if_pos c17] at H
         have c17b0 : decide (x9_3 < (l1.length : Int)) = true := decide_eq_true c17
         clear c17
         (first | rw [c17b0] | (simp only [i64_w, i32_w]; rw [c17b0]) | skip)
         have H' := Aside0.mk H
         clear H
         go_wp2
         go_meet
         case rel => exact ⟨_, H', ⟨by have := HJ3.out; have := HJ8.out; have := HK3.out; first | omega | exact Nat.le_refl _⟩, ⟨by (with_reducible repeat (first | apply Kd.R_alloc | apply Kd.R_drewN | apply Kd.R_drew)); exact HO_7.out⟩, ⟨by (with_reducible repeat (first | refine blk_drewN ?_ _ | refine blk_drew ?_ | refine blk_alloc ?_ _)); exact BK237.out⟩, ⟨by (with_reducible repeat (first | refine blk_drewN ?_ _ | refine blk_drew ?_ | refine blk_alloc ?_ _)); exact BK242.out⟩, ⟨by repeat (first | (with_reducible first | exact HB.out | apply below_alloc | apply pw_below_drewN | apply below_drew1 | refine below_set ?_ GE237.out | refine below_set ?_ GE242.out) | exact HB.out)⟩⟩
        ·rw [if_neg c17] at H
         have c17b0 : decide (x9_3 < (l1.length : Int)) = false := decide_eq_false c17
         clear c17
         (first | rw [c17b0] | (simp only [i64_w, i32_w]; rw [c17b0]) | skip)
         simp only [Option.some.injEq, Prod.mk.injEq] at H
         obtain ⟨rfl, rfl⟩ := H
         go_wp2
         go_ret2
         exact ⟨_, by first | rfl | (simp [errW_none, errW_some] <;> rfl) | (simp [*, errW_none, errW_some] <;> rfl), by (with_reducible repeat (first | apply Kd.R_alloc | apply Kd.R_drewN | apply Kd.R_drew)); exact HO_7.out, by repeat (first | (with_reducible first | exact HB.out | apply below_alloc | apply pw_below_drewN | apply below_drew1 | refine below_set ?_ GE237.out | refine below_set ?_ GE242.out) | exact HB.out)⟩
       case rest =>
        clear HC16
        try clear c1
        try clear c2
        try clear p2
        try clear c8
        try clear c8b0
        try clear c8b1
        try clear c10
        try clear c10b0
        try clear c10b1
        try clear c14
        try clear c16
        try clear c17
        try clear c17b0
        try clear hcz15_0
        try clear hcz15_1
        try clear hcz6_0
        try clear hcz6_1
        try clear hfz15_0
        try clear hfz15_1
        try clear hfz6_0
        try clear hfz6_1
        try clear p2
        obtain ⟨kq, HA, HJ15, HO_7, BK237, BK242, HB⟩ := hcut
        cases kq with
        | zero => exact absurd HA.out (by simp [signalbenchref19_Encode.j3])
        | succ kj15 =>
         have H := HA.out
         clear HA
         simp only [signalbenchref19_Encode.j3] at H
         by_cases c18 : 0 ≤ x9_3
         ·rw [if_pos c18] at H
          have c18b0 : decide (0 ≤ x9_3) = true := decide_eq_true c18
          clear c18
          by_cases c19 : x9_3 < (l1.length : Int)
          ·rw [if_pos c19] at H
           have c19b0 : decide (x9_3 < (l1.length : Int)) = true := decide_eq_true c19
           clear c19
           replace H := Option.bind_eq_some_iff.mp H
           obtain ⟨t244, A200, H⟩ := H
           replace H : (if t244 = 0 then ((signalbenchref19_Insert.f kj15 a0_0 a0_1 x243000_3 x243001_3 ((rd_T45 l1 x9_3).f3) (((rd_T45 l1 x9_3).f4) == 4)).bind fun bt247 => (if ((rd_T45 l1 x9_3).f4) = 4 then (signalbenchref19_Encode.j4 kj15 l1 x7_3 x9_3 bt247.1 (!bt247.2.2.2) a0_0 a0_1 bt247.2.1 bt247.2.2.1) else (signalbenchref19_Encode.j4 kj15 l1 x7_3 x9_3 bt247.1 false a0_0 a0_1 bt247.2.1 bt247.2.2.1))) else (some (([] : List (S45)), t244))) = some (r1, r2) := H
           have A20 := Aside0.mk A200
           clear A200
           by_cases c21 : t244 = 0
           ·rw [if_pos c21] at H
            have c21b0 : (t244 == 0) = true := beq_iff_eq.mpr c21
            have c21b1 : (t244 != 0) = false := bne_eq_false_iff_eq.mpr c21
            clear c21
            replace H := Option.bind_eq_some_iff.mp H
            obtain ⟨⟨t247, t248, t249, t250⟩, A220, H⟩ := H
            replace H : (if ((rd_T45 l1 x9_3).f4) = 4 then (signalbenchref19_Encode.j4 kj15 l1 x7_3 x9_3 t247 (!t250) a0_0 a0_1 t248 t249) else (signalbenchref19_Encode.j4 kj15 l1 x7_3 x9_3 t247 false a0_0 a0_1 t248 t249)) = some (r1, r2) := H
            have A22 := Aside0.mk A220
            clear A220
            have HC23 := Aside0.mk H
            clear H
            have p243 : 0 ≤ (x9_3 : Int) := of_decide_eq_true (by first | (with_reducible assumption) | assumption)
            have q243 : x9_3 < (l1.length : Int) := of_decide_eq_true (by first | (with_reducible assumption) | assumption)
            obtain ⟨ad243, e243, hx243_0, hx243_1, hx243_2, hx243_3, hx243_4⟩ := at_T45 HR1.out x9_3 p243 q243
            cases e243
            replace hx243_0 := (HB.out.cell (World.block_lt_of_cell? w _ hx243_0)).trans hx243_0
            replace hx243_1 := (HB.out.cell (World.block_lt_of_cell? w _ hx243_1)).trans hx243_1
            replace hx243_2 := (HB.out.cell (World.block_lt_of_cell? w _ hx243_2)).trans hx243_2
            replace hx243_3 := (HB.out.cell (World.block_lt_of_cell? w _ hx243_3)).trans hx243_3
            replace hx243_4 := (HB.out.cell (World.block_lt_of_cell? w _ hx243_4)).trans hx243_4
            replace p243 := eq_true p243
            replace q243 := eq_true q243
            try go_wp2_with (first | ((with_reducible refine gate_callee (f := 31) rfl ?_); refine goesL_ (some 34) rfl rfl Try.func31 (by kernel_rfl) rfl #[.agg #[.int .i64 ((rd_T45 l1 x9_3).f0), .int .i64 ((rd_T45 l1 x9_3).f1), .int .i64 ((rd_T45 l1 x9_3).f2), .string ((rd_T45 l1 x9_3).f3), .int .i64 ((rd_T45 l1 x9_3).f4)]] rfl (by (try simp only [List.map_toArray, List.map_cons, List.map_nil]); first | done | rfl | (simp only [List.length_drop, List.length_take]; rfl)) ?_; (with_reducible refine (signalbenchref19_wrong.calls kj15 ((rd_T45 l1 x9_3).f0) ((rd_T45 l1 x9_3).f1) ((rd_T45 l1 x9_3).f2) ((rd_T45 l1 x9_3).f3) ((rd_T45 l1 x9_3).f4) t244 _ A20.out).mono ?_); rintro e w24 ⟨rfl, hb⟩; refine ⟨_, rfl, ?_⟩; have n0_ := Aside0.mk (Kd.R_below (rkw HO_7.out) hb); have n1_ := Aside0.mk (blkb BK237.out hb); have n2_ := Aside0.mk (blkb BK242.out hb); have n3_ := Aside0.mk (below_step (hbw HB.out) hb); clear HO_7; clear BK237; clear BK242; clear HB; have HO_7 := n0_; have BK237 := n1_; have BK242 := n2_; have HB := n3_; clear n0_ n1_ n2_ n3_; (try clear hb); (try clear hb2); (try clear hk); (try clear hi)))
            have n0_ := Aside0.mk (Kd.R_drew HO_7.out)
            have n1_ := Aside0.mk (blk_drew BK237.out)
            have n2_ := Aside0.mk (blk_drew BK242.out)
            have n3_ := Aside0.mk (below_drew1 HB.out)
            clear HO_7
            clear BK237
            clear BK242
            clear HB
            have HO_7 := n0_
            have BK237 := n1_
            have BK242 := n2_
            have HB := n3_
            clear n0_ n1_ n2_ n3_
            have p245 : 0 ≤ (x9_3 : Int) := of_decide_eq_true (by first | (with_reducible assumption) | assumption)
            have q245 : x9_3 < (l1.length : Int) := of_decide_eq_true (by first | (with_reducible assumption) | assumption)
            obtain ⟨ad245, e245, hx245_0, hx245_1, hx245_2, hx245_3, hx245_4⟩ := at_T45 HR1.out x9_3 p245 q245
            have hw245_4 := hx245_4
            have hw245_3 := hx245_3
            have hw245_2 := hx245_2
            have hw245_1 := hx245_1
            have hw245_0 := hx245_0
            obtain rfl : ad243 = ad245 := (by injection e245)
            replace hx245_0 := (HB.out.cell (World.block_lt_of_cell? w _ hx245_0)).trans hx245_0
            replace hx245_1 := (HB.out.cell (World.block_lt_of_cell? w _ hx245_1)).trans hx245_1
            replace hx245_2 := (HB.out.cell (World.block_lt_of_cell? w _ hx245_2)).trans hx245_2
            replace hx245_3 := (HB.out.cell (World.block_lt_of_cell? w _ hx245_3)).trans hx245_3
            replace hx245_4 := (HB.out.cell (World.block_lt_of_cell? w _ hx245_4)).trans hx245_4
            replace p245 := eq_true p245
            replace q245 := eq_true q245
            have p246 : 0 ≤ (x9_3 : Int) := of_decide_eq_true (by first | (with_reducible assumption) | assumption)
            have q246 : x9_3 < (l1.length : Int) := of_decide_eq_true (by first | (with_reducible assumption) | assumption)
            obtain ⟨ad246, e246, hx246_0, hx246_1, hx246_2, hx246_3, hx246_4⟩ := at_T45 HR1.out x9_3 p246 q246
            have hw246_4 := hx246_4
            have hw246_3 := hx246_3
            have hw246_2 := hx246_2
            have hw246_1 := hx246_1
            have hw246_0 := hx246_0
            obtain rfl : ad243 = ad246 := (by injection e246)
            replace hx246_0 := (HB.out.cell (World.block_lt_of_cell? w _ hx246_0)).trans hx246_0
            replace hx246_1 := (HB.out.cell (World.block_lt_of_cell? w _ hx246_1)).trans hx246_1
            replace hx246_2 := (HB.out.cell (World.block_lt_of_cell? w _ hx246_2)).trans hx246_2
            replace hx246_3 := (HB.out.cell (World.block_lt_of_cell? w _ hx246_3)).trans hx246_3
            replace hx246_4 := (HB.out.cell (World.block_lt_of_cell? w _ hx246_4)).trans hx246_4
            replace p246 := eq_true p246
            replace q246 := eq_true q246
            refine start_ (n := 22) (S := fun w' => w'.cell? ⟨gb237, 0, none⟩ = some (.int .i64 a0_0) ∧ w'.cell? ⟨gb237, 1, none⟩ = some (.bool a0_1) ∧ w'.cell? ⟨gb242, 0, none⟩ = some (.int .i64 x243000_3) ∧ w'.cell? ⟨gb242, 1, none⟩ = some (.int .i64 x243001_3) ∧ w'.cell? (ad243.add ((x9_3).toNat * 5)) = some (.int .i64 ((rd_T45 l1 x9_3).f0)) ∧ w'.cell? ⟨(ad243.add ((x9_3).toNat * 5)).block, (ad243.add ((x9_3).toNat * 5)).off + 1, none⟩ = some (.int .i64 ((rd_T45 l1 x9_3).f1)) ∧ w'.cell? ⟨(ad243.add ((x9_3).toNat * 5)).block, (ad243.add ((x9_3).toNat * 5)).off + 2, none⟩ = some (.int .i64 ((rd_T45 l1 x9_3).f2)) ∧ w'.cell? ⟨(ad243.add ((x9_3).toNat * 5)).block, (ad243.add ((x9_3).toNat * 5)).off + 3, none⟩ = some (.string ((rd_T45 l1 x9_3).f3)) ∧ w'.cell? ⟨(ad243.add ((x9_3).toNat * 5)).block, (ad243.add ((x9_3).toNat * 5)).off + 4, none⟩ = some (.int .i64 ((rd_T45 l1 x9_3).f4)) ∧ w'.cell? (ad243.add ((x9_3).toNat * 5)) = some (.int .i64 ((rd_T45 l1 x9_3).f0)) ∧ w'.cell? ⟨(ad243.add ((x9_3).toNat * 5)).block, (ad243.add ((x9_3).toNat * 5)).off + 1, none⟩ = some (.int .i64 ((rd_T45 l1 x9_3).f1)) ∧ w'.cell? ⟨(ad243.add ((x9_3).toNat * 5)).block, (ad243.add ((x9_3).toNat * 5)).off + 2, none⟩ = some (.int .i64 ((rd_T45 l1 x9_3).f2)) ∧ w'.cell? ⟨(ad243.add ((x9_3).toNat * 5)).block, (ad243.add ((x9_3).toNat * 5)).off + 3, none⟩ = some (.string ((rd_T45 l1 x9_3).f3)) ∧ w'.cell? ⟨(ad243.add ((x9_3).toNat * 5)).block, (ad243.add ((x9_3).toNat * 5)).off + 4, none⟩ = some (.int .i64 ((rd_T45 l1 x9_3).f4))) (ds := []) #[false, false, false, false, false, false, false, false, false, false, false, false, false, false, false, false, false, false, false, false, false, false] (by kernel_rfl) rfl rfl ⟨(blk_cell BK237.out 0).trans rfl, (blk_cell BK237.out 1).trans rfl, (blk_cell BK242.out 0).trans rfl, (blk_cell BK242.out 1).trans rfl, ((HB.out.cell (World.block_lt_of_cell? w _ hw245_0)).trans hw245_0), ((HB.out.cell (World.block_lt_of_cell? w _ hw245_1)).trans hw245_1), ((HB.out.cell (World.block_lt_of_cell? w _ hw245_2)).trans hw245_2), ((HB.out.cell (World.block_lt_of_cell? w _ hw245_3)).trans hw245_3), ((HB.out.cell (World.block_lt_of_cell? w _ hw245_4)).trans hw245_4), ((HB.out.cell (World.block_lt_of_cell? w _ hw246_0)).trans hw246_0), ((HB.out.cell (World.block_lt_of_cell? w _ hw246_1)).trans hw246_1), ((HB.out.cell (World.block_lt_of_cell? w _ hw246_2)).trans hw246_2), ((HB.out.cell (World.block_lt_of_cell? w _ hw246_3)).trans hw246_3), ((HB.out.cell (World.block_lt_of_cell? w _ hw246_4)).trans hw246_4)⟩ (fun hHeld => ?_); refine with_tabW signalbenchref19_Encode.tab13 signalbenchref19_Encode.bits13 (fun HT_ HW_ => ?_)
            generalize w24.drew = w25 at HO_7 BK237 BK242 HB hx245_0 hx245_1 hx245_2 hx245_3 hx245_4 hx246_0 hx246_1 hx246_2 hx246_3 hx246_4 hHeld ⊢
            refine pstep 2 (some 41) #[false, false, true, false, false, false, false, false, false, false, false, false, false, false, false, false, false, false, false, false, false, false] HT_.out ?_
            refine pstep 3 (some 42) #[false, false, true, true, false, false, false, false, false, false, false, false, false, false, false, false, false, false, false, false, false, false] HT_.out ?_
            refine pstep 4 (some 43) #[false, false, true, true, true, false, false, false, false, false, false, false, false, false, false, false, false, false, false, false, false, false] HT_.out ?_
            refine pstep 5 (some 44) #[false, false, true, true, true, true, false, false, false, false, false, false, false, false, false, false, false, false, false, false, false, false] HT_.out ?_
            refine pstep 7 (some 46) #[false, false, true, true, true, true, false, true, false, false, false, false, false, false, false, false, false, false, false, false, false, false] HT_.out ?_
            refine pstep 8 (some 47) #[false, false, true, true, true, true, false, true, true, false, false, false, false, false, false, false, false, false, false, false, false, false] HT_.out ?_
            refine pstep 9 (some 48) #[false, false, true, true, true, true, false, true, true, true, false, false, false, false, false, false, false, false, false, false, false, false] HT_.out ?_
            refine pstep 10 (some 49) #[false, false, true, true, true, true, false, true, true, true, true, false, false, false, false, false, false, false, false, false, false, false] HT_.out ?_
            refine take_ (i := 0) (N := some 39) (v := ?_) (a' := ?_) #[true, false, true, true, true, true, false, true, true, true, true, false, false, false, false, false, false, false, false, false, false, false] rfl rfl (take_ofW HT_.out HW_.out (by kernel_rfl)) (fun _ _ _ h => h) (Or.inl ⟨by rfl, ?_⟩) hHeld ?_ ?_
            rotate_left
            ·rintro w' ⟨s0, s1, s2, s3, s4, s5, s6, s7, s8, s9, s10, s11, s12, s13⟩
             go_simp
             with_reducible rfl
            rotate_left
            ·simp only [Act.put, nrm]
             rfl
            refine take_ (i := 1) (N := some 40) (v := ?_) (a' := ?_) #[true, true, true, true, true, true, false, true, true, true, true, false, false, false, false, false, false, false, false, false, false, false] rfl rfl (take_ofW HT_.out HW_.out (by kernel_rfl)) (fun _ _ _ h => h) (Or.inl ⟨by rfl, ?_⟩) hHeld ?_ ?_
            rotate_left
            ·rintro w' ⟨s0, s1, s2, s3, s4, s5, s6, s7, s8, s9, s10, s11, s12, s13⟩
             go_simp
             with_reducible rfl
            rotate_left
            ·simp only [Act.put, nrm]
             rfl
            refine take_ (i := 6) (N := some 45) (v := ?_) (a' := ?_) #[true, true, true, true, true, true, true, true, true, true, true, false, false, false, false, false, false, false, false, false, false, false] rfl rfl (take_ofW HT_.out HW_.out (by kernel_rfl)) (fun _ _ _ h => h) (Or.inl ⟨by rfl, ?_⟩) hHeld ?_ ?_
            rotate_left
            ·rintro w' ⟨s0, s1, s2, s3, s4, s5, s6, s7, s8, s9, s10, s11, s12, s13⟩
             go_simp
             with_reducible rfl
            rotate_left
            ·simp only [Act.put, nrm]
             rfl
            refine take_ (i := 11) (N := some 50) (v := ?_) (a' := ?_) #[true, true, true, true, true, true, true, true, true, true, true, true, false, false, false, false, false, false, false, false, false, false] rfl rfl (take_ofW HT_.out HW_.out (by kernel_rfl)) (fun _ _ _ h => h) (Or.inl ⟨by rfl, ?_⟩) hHeld ?_ ?_
            rotate_left
            ·rintro w' ⟨s0, s1, s2, s3, s4, s5, s6, s7, s8, s9, s10, s11, s12, s13⟩
             go_simp
             with_reducible rfl
            rotate_left
            ·simp only [Act.put, nrm]
             rfl
            refine pstep 12 (some 51) #[true, true, true, true, true, true, true, true, true, true, true, true, true, false, false, false, false, false, false, false, false, false] HT_.out ?_
            refine join_ (σ := Nat) 3 #[true, true, true, true, true, true, true, true, true, true, true, true, true, true, true, true, true, true, true, false, false, false] (fun s_ => [(52, .tuple #[.string t247, .agg #[.int .i64 t248, .int .i64 t249], .bool t250]), (12, .pointer (some ⟨s_, 0, none⟩)), (38, .tuple #[.string t247, .agg #[.int .i64 t248, .int .i64 t249], .bool t250]), (53, .string t247), (54, .agg #[.int .i64 t248, .int .i64 t249]), (55, .bool t250)]) (fun s_ w' => (w'.cell? ⟨gb237, 0, none⟩ = some (.int .i64 a0_0) ∧ w'.cell? ⟨gb237, 1, none⟩ = some (.bool a0_1) ∧ w'.cell? ⟨gb242, 0, none⟩ = some (.int .i64 x243000_3) ∧ w'.cell? ⟨gb242, 1, none⟩ = some (.int .i64 x243001_3) ∧ w'.cell? (ad243.add ((x9_3).toNat * 5)) = some (.int .i64 ((rd_T45 l1 x9_3).f0)) ∧ w'.cell? ⟨(ad243.add ((x9_3).toNat * 5)).block, (ad243.add ((x9_3).toNat * 5)).off + 1, none⟩ = some (.int .i64 ((rd_T45 l1 x9_3).f1)) ∧ w'.cell? ⟨(ad243.add ((x9_3).toNat * 5)).block, (ad243.add ((x9_3).toNat * 5)).off + 2, none⟩ = some (.int .i64 ((rd_T45 l1 x9_3).f2)) ∧ w'.cell? ⟨(ad243.add ((x9_3).toNat * 5)).block, (ad243.add ((x9_3).toNat * 5)).off + 3, none⟩ = some (.string ((rd_T45 l1 x9_3).f3)) ∧ w'.cell? ⟨(ad243.add ((x9_3).toNat * 5)).block, (ad243.add ((x9_3).toNat * 5)).off + 4, none⟩ = some (.int .i64 ((rd_T45 l1 x9_3).f4)) ∧ w'.cell? (ad243.add ((x9_3).toNat * 5)) = some (.int .i64 ((rd_T45 l1 x9_3).f0)) ∧ w'.cell? ⟨(ad243.add ((x9_3).toNat * 5)).block, (ad243.add ((x9_3).toNat * 5)).off + 1, none⟩ = some (.int .i64 ((rd_T45 l1 x9_3).f1)) ∧ w'.cell? ⟨(ad243.add ((x9_3).toNat * 5)).block, (ad243.add ((x9_3).toNat * 5)).off + 2, none⟩ = some (.int .i64 ((rd_T45 l1 x9_3).f2)) ∧ w'.cell? ⟨(ad243.add ((x9_3).toNat * 5)).block, (ad243.add ((x9_3).toNat * 5)).off + 3, none⟩ = some (.string ((rd_T45 l1 x9_3).f3)) ∧ w'.cell? ⟨(ad243.add ((x9_3).toNat * 5)).block, (ad243.add ((x9_3).toNat * 5)).off + 4, none⟩ = some (.int .i64 ((rd_T45 l1 x9_3).f4))) ∧ (Kd.R k45 45 w' w.heap.size (fun _ => True) u7 x7_3) ∧ (w'.heap[gb237]? = some (.cells #[.int .i64 a0_0, .bool a0_1] 23 (0, 0))) ∧ (w'.heap[gb242]? = some (.cells #[.int .i64 x243000_3, .int .i64 x243001_3] 57 (0, 0))) ∧ (w'.heap[s_]? = some (.cells #[.int .i64 0, .int .i64 0] 57 (0, 0))) ∧ (w.heap.size ≤ s_) ∧ (w.heap.size ≤ s_) ∧ (gb237 ≠ s_) ∧ (s_ ≠ gb237) ∧ (gb242 ≠ s_) ∧ (s_ ≠ gb242) ∧ (Below w.heap.size w w')) ?_ ?_
            rotate_left
            ·intro hCont
             refine two_ (i := 13) (j := 18) (Ni := some 52) (Nj := some 12) #[true, true, true, true, true, true, true, true, true, true, true, true, true, true, false, false, false, false, false, false, false, false] #[true, true, true, true, true, true, true, true, true, true, true, true, true, false, false, false, false, false, true, false, false, false] rfl rfl rfl rfl (two_of HT_.out (by kernel_rfl)) (by decide) (by decide) (fun K hK => ?_) (fun K hK => ?_)
             ·skip
              refine goes_ Try.func32 (by kernel_rfl) rfl #[.agg #[.int .i64 a0_0, .bool a0_1], .agg #[.int .i64 x243000_3, .int .i64 x243001_3], .string ((rd_T45 l1 x9_3).f3), .bool (((rd_T45 l1 x9_3).f4) == 4)] (by rfl) rfl rfl (by (try simp only [List.map_toArray, List.map_cons, List.map_nil]); first | done | rfl | (simp only [List.length_drop, List.length_take]; rfl)) ?_
              with_reducible refine (signalbenchref19_Insert.calls kj15 a0_0 a0_1 x243000_3 x243001_3 ((rd_T45 l1 x9_3).f3) (((rd_T45 l1 x9_3).f4) == 4) t247 t248 t249 t250 _ A22.out).mono ?_
              rintro e w26 ⟨rfl, hb⟩
              refine ⟨_, rfl, ?_⟩
              have n0_ := Aside0.mk (Kd.R_below (rkw HO_7.out) hb)
              have n1_ := Aside0.mk (blkb BK237.out hb)
              have n2_ := Aside0.mk (blkb BK242.out hb)
              have n3_ := Aside0.mk (below_step (hbw HB.out) hb)
              clear HO_7
              clear BK237
              clear BK242
              clear HB
              have HO_7 := n0_
              have BK237 := n1_
              have BK242 := n2_
              have HB := n3_
              clear n0_ n1_ n2_ n3_
              (try clear hb)
              (try clear hb2)
              (try clear hk)
              (try clear hi)
              refine hK.out _ _ ⟨(blk_cell BK237.out 0).trans rfl, (blk_cell BK237.out 1).trans rfl, (blk_cell BK242.out 0).trans rfl, (blk_cell BK242.out 1).trans rfl, ((HB.out.cell (World.block_lt_of_cell? w _ hw245_0)).trans hw245_0), ((HB.out.cell (World.block_lt_of_cell? w _ hw245_1)).trans hw245_1), ((HB.out.cell (World.block_lt_of_cell? w _ hw245_2)).trans hw245_2), ((HB.out.cell (World.block_lt_of_cell? w _ hw245_3)).trans hw245_3), ((HB.out.cell (World.block_lt_of_cell? w _ hw245_4)).trans hw245_4), ((HB.out.cell (World.block_lt_of_cell? w _ hw246_0)).trans hw246_0), ((HB.out.cell (World.block_lt_of_cell? w _ hw246_1)).trans hw246_1), ((HB.out.cell (World.block_lt_of_cell? w _ hw246_2)).trans hw246_2), ((HB.out.cell (World.block_lt_of_cell? w _ hw246_3)).trans hw246_3), ((HB.out.cell (World.block_lt_of_cell? w _ hw246_4)).trans hw246_4)⟩ (fun hHeld => ?_)
              clear hK K
              refine norm_ (a' := ?_) ?_ ?_
              rotate_left
              ·show Act.put _ (some 52) _ = _
               simp only [Act.put, nrm]
               rfl
              refine pstep 14 (some 38) #[true, true, true, true, true, true, true, true, true, true, true, true, true, true, true, false, false, false, false, false, false, false] HT_.out ?_
              refine pstep 15 (some 53) #[true, true, true, true, true, true, true, true, true, true, true, true, true, true, true, true, false, false, false, false, false, false] HT_.out ?_
              refine pstep 16 (some 54) #[true, true, true, true, true, true, true, true, true, true, true, true, true, true, true, true, true, false, false, false, false, false] HT_.out ?_
              refine pstep 17 (some 55) #[true, true, true, true, true, true, true, true, true, true, true, true, true, true, true, true, true, true, false, false, false, false] HT_.out ?_
              refine one_ (i := 18) (N := some 12) #[true, true, true, true, true, true, true, true, true, true, true, true, true, true, true, true, true, true, true, false, false, false] rfl rfl (one_of HT_.out (by kernel_rfl)) (by decide) (fun K hK => ?_)
              refine box_step ?hg (N := 12) ?hd (cs := #[.int .i64 0, .int .i64 0]) (t := 57) ?hr ?_; (case hd => rfl); (case hg => rfl); (case hr => first | (go_simp; done) | (go_simp; rfl))
              intro gb251 hg w27 hbox hb
              have n0_ := Aside0.mk (Kd.R_below (rkw HO_7.out) hb)
              have n1_ := Aside0.mk (blkb BK237.out hb)
              have n2_ := Aside0.mk (blkb BK242.out hb)
              have n3_ := Aside0.mk (below_step (hbw HB.out) hb)
              have n4_ := Aside0.mk (hbox)
              have n5_ := Aside0.mk ((by rw [hg]; exact (below_size (hbw HB.out)) : w.heap.size ≤ gb251))
              have n6_ := Aside0.mk ((by rw [hg]; exact (below_size (hbw HB.out)) : w.heap.size ≤ gb251))
              have n7_ := Aside0.mk ((by rw [hg]; exact Nat.ne_of_lt (blkl BK237.out) : gb237 ≠ gb251))
              have n8_ := Aside0.mk ((by rw [hg]; exact Nat.ne_of_gt (blkl BK237.out) : gb251 ≠ gb237))
              have n9_ := Aside0.mk ((by rw [hg]; exact Nat.ne_of_lt (blkl BK242.out) : gb242 ≠ gb251))
              have n10_ := Aside0.mk ((by rw [hg]; exact Nat.ne_of_gt (blkl BK242.out) : gb251 ≠ gb242))
              clear HO_7
              clear BK237
              clear BK242
              clear HB
              have HO_7 := n0_
              have BK237 := n1_
              have BK242 := n2_
              have HB := n3_
              have BK251 := n4_
              have GW251 := n5_
              have GE251 := n6_
              have NB237_251 := n7_
              have NB251_237 := n8_
              have NB242_251 := n9_
              have NB251_242 := n10_
              clear n0_ n1_ n2_ n3_ n4_ n5_ n6_ n7_ n8_ n9_ n10_
              clear hb hbox hg
              refine hK.out _ _ ⟨(blk_cell BK237.out 0).trans rfl, (blk_cell BK237.out 1).trans rfl, (blk_cell BK242.out 0).trans rfl, (blk_cell BK242.out 1).trans rfl, ((HB.out.cell (World.block_lt_of_cell? w _ hw245_0)).trans hw245_0), ((HB.out.cell (World.block_lt_of_cell? w _ hw245_1)).trans hw245_1), ((HB.out.cell (World.block_lt_of_cell? w _ hw245_2)).trans hw245_2), ((HB.out.cell (World.block_lt_of_cell? w _ hw245_3)).trans hw245_3), ((HB.out.cell (World.block_lt_of_cell? w _ hw245_4)).trans hw245_4), ((HB.out.cell (World.block_lt_of_cell? w _ hw246_0)).trans hw246_0), ((HB.out.cell (World.block_lt_of_cell? w _ hw246_1)).trans hw246_1), ((HB.out.cell (World.block_lt_of_cell? w _ hw246_2)).trans hw246_2), ((HB.out.cell (World.block_lt_of_cell? w _ hw246_3)).trans hw246_3), ((HB.out.cell (World.block_lt_of_cell? w _ hw246_4)).trans hw246_4)⟩ (fun hHeld => ?_)
              clear hK K
              refine norm_ (a' := ?_) ?_ ?_
              rotate_left
              ·show Act.put _ (some 12) _ = _
               simp only [Act.put, nrm]
               rfl
              exact norm_ (by simp only [putAll, Act.put, List.setIfInBounds_toArray, List.set_cons_zero, List.set_cons_succ]) (hCont (gb251) _ ⟨hHeld, (rkw HO_7.out), (bkw BK237.out), (bkw BK242.out), (bkw BK251.out), GW251.out, GE251.out, NB237_251.out, NB251_237.out, NB242_251.out, NB251_242.out, (hbw HB.out)⟩)
             ·skip
              refine box_step ?hg (N := 12) ?hd (cs := #[.int .i64 0, .int .i64 0]) (t := 57) ?hr ?_; (case hd => rfl); (case hg => rfl); (case hr => first | (go_simp; done) | (go_simp; rfl))
              intro gb251 hg w26 hbox hb
              have n0_ := Aside0.mk (Kd.R_below (rkw HO_7.out) hb)
              have n1_ := Aside0.mk (blkb BK237.out hb)
              have n2_ := Aside0.mk (blkb BK242.out hb)
              have n3_ := Aside0.mk (below_step (hbw HB.out) hb)
              have n4_ := Aside0.mk (hbox)
              have n5_ := Aside0.mk ((by rw [hg]; exact (below_size (hbw HB.out)) : w.heap.size ≤ gb251))
              have n6_ := Aside0.mk ((by rw [hg]; exact (below_size (hbw HB.out)) : w.heap.size ≤ gb251))
              have n7_ := Aside0.mk ((by rw [hg]; exact Nat.ne_of_lt (blkl BK237.out) : gb237 ≠ gb251))
              have n8_ := Aside0.mk ((by rw [hg]; exact Nat.ne_of_gt (blkl BK237.out) : gb251 ≠ gb237))
              have n9_ := Aside0.mk ((by rw [hg]; exact Nat.ne_of_lt (blkl BK242.out) : gb242 ≠ gb251))
              have n10_ := Aside0.mk ((by rw [hg]; exact Nat.ne_of_gt (blkl BK242.out) : gb251 ≠ gb242))
              clear HO_7
              clear BK237
              clear BK242
              clear HB
              have HO_7 := n0_
              have BK237 := n1_
              have BK242 := n2_
              have HB := n3_
              have BK251 := n4_
              have GW251 := n5_
              have GE251 := n6_
              have NB237_251 := n7_
              have NB251_237 := n8_
              have NB242_251 := n9_
              have NB251_242 := n10_
              clear n0_ n1_ n2_ n3_ n4_ n5_ n6_ n7_ n8_ n9_ n10_
              clear hb hbox hg
              refine hK.out _ _ ⟨(blk_cell BK237.out 0).trans rfl, (blk_cell BK237.out 1).trans rfl, (blk_cell BK242.out 0).trans rfl, (blk_cell BK242.out 1).trans rfl, ((HB.out.cell (World.block_lt_of_cell? w _ hw245_0)).trans hw245_0), ((HB.out.cell (World.block_lt_of_cell? w _ hw245_1)).trans hw245_1), ((HB.out.cell (World.block_lt_of_cell? w _ hw245_2)).trans hw245_2), ((HB.out.cell (World.block_lt_of_cell? w _ hw245_3)).trans hw245_3), ((HB.out.cell (World.block_lt_of_cell? w _ hw245_4)).trans hw245_4), ((HB.out.cell (World.block_lt_of_cell? w _ hw246_0)).trans hw246_0), ((HB.out.cell (World.block_lt_of_cell? w _ hw246_1)).trans hw246_1), ((HB.out.cell (World.block_lt_of_cell? w _ hw246_2)).trans hw246_2), ((HB.out.cell (World.block_lt_of_cell? w _ hw246_3)).trans hw246_3), ((HB.out.cell (World.block_lt_of_cell? w _ hw246_4)).trans hw246_4)⟩ (fun hHeld => ?_)
              clear hK K
              refine norm_ (a' := ?_) ?_ ?_
              rotate_left
              ·show Act.put _ (some 12) _ = _
               simp only [Act.put, nrm]
               rfl
              refine one_ (i := 13) (N := some 52) #[true, true, true, true, true, true, true, true, true, true, true, true, true, true, false, false, false, false, true, false, false, false] rfl rfl (one_of HT_.out (by kernel_rfl)) (by decide) (fun K hK => ?_)
              refine goes_ Try.func32 (by kernel_rfl) rfl #[.agg #[.int .i64 a0_0, .bool a0_1], .agg #[.int .i64 x243000_3, .int .i64 x243001_3], .string ((rd_T45 l1 x9_3).f3), .bool (((rd_T45 l1 x9_3).f4) == 4)] (by rfl) rfl rfl (by (try simp only [List.map_toArray, List.map_cons, List.map_nil]); first | done | rfl | (simp only [List.length_drop, List.length_take]; rfl)) ?_
              with_reducible refine (signalbenchref19_Insert.calls kj15 a0_0 a0_1 x243000_3 x243001_3 ((rd_T45 l1 x9_3).f3) (((rd_T45 l1 x9_3).f4) == 4) t247 t248 t249 t250 _ A22.out).mono ?_
              rintro e w27 ⟨rfl, hb⟩
              refine ⟨_, rfl, ?_⟩
              have n0_ := Aside0.mk (Kd.R_below (rkw HO_7.out) hb)
              have n1_ := Aside0.mk (blkb BK237.out hb)
              have n2_ := Aside0.mk (blkb BK242.out hb)
              have n3_ := Aside0.mk (blkb BK251.out hb)
              have n4_ := Aside0.mk (below_step (hbw HB.out) hb)
              clear HO_7
              clear BK237
              clear BK242
              clear BK251
              clear HB
              have HO_7 := n0_
              have BK237 := n1_
              have BK242 := n2_
              have BK251 := n3_
              have HB := n4_
              clear n0_ n1_ n2_ n3_ n4_
              (try clear hb)
              (try clear hb2)
              (try clear hk)
              (try clear hi)
              refine hK.out _ _ ⟨(blk_cell BK237.out 0).trans rfl, (blk_cell BK237.out 1).trans rfl, (blk_cell BK242.out 0).trans rfl, (blk_cell BK242.out 1).trans rfl, ((HB.out.cell (World.block_lt_of_cell? w _ hw245_0)).trans hw245_0), ((HB.out.cell (World.block_lt_of_cell? w _ hw245_1)).trans hw245_1), ((HB.out.cell (World.block_lt_of_cell? w _ hw245_2)).trans hw245_2), ((HB.out.cell (World.block_lt_of_cell? w _ hw245_3)).trans hw245_3), ((HB.out.cell (World.block_lt_of_cell? w _ hw245_4)).trans hw245_4), ((HB.out.cell (World.block_lt_of_cell? w _ hw246_0)).trans hw246_0), ((HB.out.cell (World.block_lt_of_cell? w _ hw246_1)).trans hw246_1), ((HB.out.cell (World.block_lt_of_cell? w _ hw246_2)).trans hw246_2), ((HB.out.cell (World.block_lt_of_cell? w _ hw246_3)).trans hw246_3), ((HB.out.cell (World.block_lt_of_cell? w _ hw246_4)).trans hw246_4)⟩ (fun hHeld => ?_)
              clear hK K
              refine norm_ (a' := ?_) ?_ ?_
              rotate_left
              ·show Act.put _ (some 52) _ = _
               simp only [Act.put, nrm]
               rfl
              refine pstep 14 (some 38) #[true, true, true, true, true, true, true, true, true, true, true, true, true, true, true, false, false, false, true, false, false, false] HT_.out ?_
              refine pstep 15 (some 53) #[true, true, true, true, true, true, true, true, true, true, true, true, true, true, true, true, false, false, true, false, false, false] HT_.out ?_
              refine pstep 16 (some 54) #[true, true, true, true, true, true, true, true, true, true, true, true, true, true, true, true, true, false, true, false, false, false] HT_.out ?_
              refine pstep 17 (some 55) #[true, true, true, true, true, true, true, true, true, true, true, true, true, true, true, true, true, true, true, false, false, false] HT_.out ?_
              exact norm_ (by simp only [putAll, Act.put, List.setIfInBounds_toArray, List.set_cons_zero, List.set_cons_succ]) (hCont (gb251) _ ⟨hHeld, (rkw HO_7.out), (bkw BK237.out), (bkw BK242.out), (bkw BK251.out), GW251.out, GE251.out, NB237_251.out, NB251_237.out, NB242_251.out, NB251_242.out, (hbw HB.out)⟩)
            rintro gb251 w28 ⟨hS_, h0_, h1_, h2_, h3_, h4_, h5_, h6_, h7_, h8_, h9_, h10_⟩
            have n0_ : Aside0 (Kd.R k45 45 w28 w.heap.size (fun _ => True) u7 x7_3) := ⟨h0_⟩
            have n1_ : Aside0 (w28.heap[gb237]? = some (.cells #[.int .i64 a0_0, .bool a0_1] 23 (0, 0))) := ⟨h1_⟩
            have n2_ : Aside0 (w28.heap[gb242]? = some (.cells #[.int .i64 x243000_3, .int .i64 x243001_3] 57 (0, 0))) := ⟨h2_⟩
            have n3_ : Aside0 (w28.heap[gb251]? = some (.cells #[.int .i64 0, .int .i64 0] 57 (0, 0))) := ⟨h3_⟩
            have n4_ : Aside0 (w.heap.size ≤ gb251) := ⟨h4_⟩
            have n5_ : Aside0 (w.heap.size ≤ gb251) := ⟨h5_⟩
            have n6_ : Aside0 (gb237 ≠ gb251) := ⟨h6_⟩
            have n7_ : Aside0 (gb251 ≠ gb237) := ⟨h7_⟩
            have n8_ : Aside0 (gb242 ≠ gb251) := ⟨h8_⟩
            have n9_ : Aside0 (gb251 ≠ gb242) := ⟨h9_⟩
            have n10_ : Aside0 (Below w.heap.size w w28) := ⟨h10_⟩
            clear HO_7
            clear BK237
            clear BK242
            clear HB
            clear h0_ h1_ h2_ h3_ h4_ h5_ h6_ h7_ h8_ h9_ h10_
            have HO_7 := n0_
            have BK237 := n1_
            have BK242 := n2_
            have BK251 := n3_
            have GW251 := n4_
            have GE251 := n5_
            have NB237_251 := n6_
            have NB251_237 := n7_
            have NB242_251 := n8_
            have NB251_242 := n9_
            have HB := n10_
            clear n0_ n1_ n2_ n3_ n4_ n5_ n6_ n7_ n8_ n9_ n10_
            have hHeld : w28.cell? ⟨gb237, 0, none⟩ = some (.int .i64 a0_0) ∧ w28.cell? ⟨gb237, 1, none⟩ = some (.bool a0_1) ∧ w28.cell? ⟨gb242, 0, none⟩ = some (.int .i64 x243000_3) ∧ w28.cell? ⟨gb242, 1, none⟩ = some (.int .i64 x243001_3) ∧ w28.cell? (ad243.add ((x9_3).toNat * 5)) = some (.int .i64 ((rd_T45 l1 x9_3).f0)) ∧ w28.cell? ⟨(ad243.add ((x9_3).toNat * 5)).block, (ad243.add ((x9_3).toNat * 5)).off + 1, none⟩ = some (.int .i64 ((rd_T45 l1 x9_3).f1)) ∧ w28.cell? ⟨(ad243.add ((x9_3).toNat * 5)).block, (ad243.add ((x9_3).toNat * 5)).off + 2, none⟩ = some (.int .i64 ((rd_T45 l1 x9_3).f2)) ∧ w28.cell? ⟨(ad243.add ((x9_3).toNat * 5)).block, (ad243.add ((x9_3).toNat * 5)).off + 3, none⟩ = some (.string ((rd_T45 l1 x9_3).f3)) ∧ w28.cell? ⟨(ad243.add ((x9_3).toNat * 5)).block, (ad243.add ((x9_3).toNat * 5)).off + 4, none⟩ = some (.int .i64 ((rd_T45 l1 x9_3).f4)) ∧ w28.cell? (ad243.add ((x9_3).toNat * 5)) = some (.int .i64 ((rd_T45 l1 x9_3).f0)) ∧ w28.cell? ⟨(ad243.add ((x9_3).toNat * 5)).block, (ad243.add ((x9_3).toNat * 5)).off + 1, none⟩ = some (.int .i64 ((rd_T45 l1 x9_3).f1)) ∧ w28.cell? ⟨(ad243.add ((x9_3).toNat * 5)).block, (ad243.add ((x9_3).toNat * 5)).off + 2, none⟩ = some (.int .i64 ((rd_T45 l1 x9_3).f2)) ∧ w28.cell? ⟨(ad243.add ((x9_3).toNat * 5)).block, (ad243.add ((x9_3).toNat * 5)).off + 3, none⟩ = some (.string ((rd_T45 l1 x9_3).f3)) ∧ w28.cell? ⟨(ad243.add ((x9_3).toNat * 5)).block, (ad243.add ((x9_3).toNat * 5)).off + 4, none⟩ = some (.int .i64 ((rd_T45 l1 x9_3).f4)) := hS_
            refine norm_ (a' := ?_) ?_ ?_
            rotate_left
            ·simp only [putAll, Act.put, List.setIfInBounds_toArray, List.set_cons_zero, List.set_cons_succ]
             rfl
            refine pstep 19 (some 11) #[true, true, true, true, true, true, true, true, true, true, true, true, true, true, true, true, true, true, true, true, false, false] HT_.out ?_
            refine one_ (i := 20) (N := none) #[true, true, true, true, true, true, true, true, true, true, true, true, true, true, true, true, true, true, true, true, true, false] rfl rfl (one_of HT_.out (by kernel_rfl)) (by decide) (fun K hK => ?_)
            have hs29 : w28.cell? ⟨gb251, 0, none⟩ = some (.int .i64 0) := (blk_cell BK251.out 0).trans rfl
            have hfs29 := blk_frozen BK251.out 0
            have hns29_0 := NB237_251.out
            have hns29_1 := NB242_251.out
            have hms29_0 := NB251_237.out
            have hms29_1 := NB251_242.out
            have hs30 : w28.cell? ⟨gb251, 1, none⟩ = some (.int .i64 0) := (blk_cell BK251.out 1).trans rfl
            have hfs30 := blk_frozen BK251.out 1
            have hns30_0 := NB237_251.out
            have hns30_1 := NB242_251.out
            have hms30_0 := NB251_237.out
            have hms30_1 := NB251_242.out
            refine skip_ (w1 := ?_) (by rfl) rfl ?_ ?_
            rotate_left
            ·go_simp
             rfl
            refine hK.out _ _ ⟨((far2 (g := gb251) NB237_251.out).trans (hHeld.1)), ((far2 (g := gb251) NB237_251.out).trans (hHeld.2.1)), ((far2 (g := gb251) NB242_251.out).trans (hHeld.2.2.1)), ((far2 (g := gb251) NB242_251.out).trans (hHeld.2.2.2.1)), ((far2 (g := gb251) (by have e_ := Nat.ne_of_lt (Nat.lt_of_lt_of_le (by have := World.block_lt_of_cell? _ _ hw245_0; first | rwa [add_block] at this | exact this) GW251.out); first | exact e_ | (rw [add_block]; exact e_) | (show (Addr.add _ _).block ≠ _; rw [add_block]; exact e_) | (dsimp only; exact e_))).trans (hHeld.2.2.2.2.1)), ((far2 (g := gb251) (by have e_ := Nat.ne_of_lt (Nat.lt_of_lt_of_le (by have := World.block_lt_of_cell? _ _ hw245_1; first | rwa [add_block] at this | exact this) GW251.out); first | exact e_ | (rw [add_block]; exact e_) | (show (Addr.add _ _).block ≠ _; rw [add_block]; exact e_) | (dsimp only; exact e_))).trans (hHeld.2.2.2.2.2.1)), ((far2 (g := gb251) (by have e_ := Nat.ne_of_lt (Nat.lt_of_lt_of_le (by have := World.block_lt_of_cell? _ _ hw245_2; first | rwa [add_block] at this | exact this) GW251.out); first | exact e_ | (rw [add_block]; exact e_) | (show (Addr.add _ _).block ≠ _; rw [add_block]; exact e_) | (dsimp only; exact e_))).trans (hHeld.2.2.2.2.2.2.1)), ((far2 (g := gb251) (by have e_ := Nat.ne_of_lt (Nat.lt_of_lt_of_le (by have := World.block_lt_of_cell? _ _ hw245_3; first | rwa [add_block] at this | exact this) GW251.out); first | exact e_ | (rw [add_block]; exact e_) | (show (Addr.add _ _).block ≠ _; rw [add_block]; exact e_) | (dsimp only; exact e_))).trans (hHeld.2.2.2.2.2.2.2.1)), ((far2 (g := gb251) (by have e_ := Nat.ne_of_lt (Nat.lt_of_lt_of_le (by have := World.block_lt_of_cell? _ _ hw245_4; first | rwa [add_block] at this | exact this) GW251.out); first | exact e_ | (rw [add_block]; exact e_) | (show (Addr.add _ _).block ≠ _; rw [add_block]; exact e_) | (dsimp only; exact e_))).trans (hHeld.2.2.2.2.2.2.2.2.1)), ((far2 (g := gb251) (by have e_ := Nat.ne_of_lt (Nat.lt_of_lt_of_le (by have := World.block_lt_of_cell? _ _ hw246_0; first | rwa [add_block] at this | exact this) GW251.out); first | exact e_ | (rw [add_block]; exact e_) | (show (Addr.add _ _).block ≠ _; rw [add_block]; exact e_) | (dsimp only; exact e_))).trans (hHeld.2.2.2.2.2.2.2.2.2.1)), ((far2 (g := gb251) (by have e_ := Nat.ne_of_lt (Nat.lt_of_lt_of_le (by have := World.block_lt_of_cell? _ _ hw246_1; first | rwa [add_block] at this | exact this) GW251.out); first | exact e_ | (rw [add_block]; exact e_) | (show (Addr.add _ _).block ≠ _; rw [add_block]; exact e_) | (dsimp only; exact e_))).trans (hHeld.2.2.2.2.2.2.2.2.2.2.1)), ((far2 (g := gb251) (by have e_ := Nat.ne_of_lt (Nat.lt_of_lt_of_le (by have := World.block_lt_of_cell? _ _ hw246_2; first | rwa [add_block] at this | exact this) GW251.out); first | exact e_ | (rw [add_block]; exact e_) | (show (Addr.add _ _).block ≠ _; rw [add_block]; exact e_) | (dsimp only; exact e_))).trans (hHeld.2.2.2.2.2.2.2.2.2.2.2.1)), ((far2 (g := gb251) (by have e_ := Nat.ne_of_lt (Nat.lt_of_lt_of_le (by have := World.block_lt_of_cell? _ _ hw246_3; first | rwa [add_block] at this | exact this) GW251.out); first | exact e_ | (rw [add_block]; exact e_) | (show (Addr.add _ _).block ≠ _; rw [add_block]; exact e_) | (dsimp only; exact e_))).trans (hHeld.2.2.2.2.2.2.2.2.2.2.2.2.1)), ((far2 (g := gb251) (by have e_ := Nat.ne_of_lt (Nat.lt_of_lt_of_le (by have := World.block_lt_of_cell? _ _ hw246_4; first | rwa [add_block] at this | exact this) GW251.out); first | exact e_ | (rw [add_block]; exact e_) | (show (Addr.add _ _).block ≠ _; rw [add_block]; exact e_) | (dsimp only; exact e_))).trans (hHeld.2.2.2.2.2.2.2.2.2.2.2.2.2))⟩ (fun hHeld => ?_)
            clear hK K
            refine pstep 21 (some 13) #[true, true, true, true, true, true, true, true, true, true, true, true, true, true, true, true, true, true, true, true, true, true] HT_.out ?_
            refine done_ (done_of HT_.out (by kernel_rfl)) ?_
            go_upto_region 14 with (fail)
            go_cut [65] (fun v65 wc => ∃ (kq : Nat) (x65_22 : Bool), v65 = .bool x65_22 ∧ Aside0 (signalbenchref19_Encode.j4 kq l1 x7_3 x9_3 t247 x65_22 a0_0 a0_1 t248 t249 = some (r1, r2)) ∧ Aside0 (kq ≤ kj15) ∧ Aside0 (Kd.R k45 45 wc w.heap.size (fun _ => True) u7 x7_3) ∧ Aside0 (wc.heap[gb237]? = some (.cells #[.int .i64 a0_0, .bool a0_1] 23 (0, 0))) ∧ Aside0 (wc.heap[gb242]? = some (.cells #[.int .i64 x243000_3, .int .i64 x243001_3] 57 (0, 0))) ∧ Aside0 (wc.heap[gb251]? = some (.cells #[.int .i64 t248, .int .i64 t249] 57 (0, 0))) ∧ Aside0 (Below w.heap.size w wc))
            case first =>
             have H := HC23.out
             clear HC23
             by_cases c31 : ((rd_T45 l1 x9_3).f4) = 4
             ·rw [if_pos c31] at H
              have c31b0 : (((rd_T45 l1 x9_3).f4) == 4) = true := beq_iff_eq.mpr c31
              have c31b1 : (((rd_T45 l1 x9_3).f4) != 4) = false := bne_eq_false_iff_eq.mpr c31
              clear c31
              (first | rw [c31b0] | (simp only [i64_w, i32_w]; rw [c31b0]) | skip)
              have H' := Aside0.mk H
              clear H
              have p252 : 0 ≤ (x9_3 : Int) := of_decide_eq_true (by first | (with_reducible assumption) | assumption)
              have q252 : x9_3 < (l1.length : Int) := of_decide_eq_true (by first | (with_reducible assumption) | assumption)
              obtain ⟨ad252, e252, hx252_0, hx252_1, hx252_2, hx252_3, hx252_4⟩ := at_T45 HR1.out x9_3 p252 q252
              obtain rfl : ad243 = ad252 := (by injection e252)
              have hn252_0 : ad243.block ≠ gb251 := Nat.ne_of_lt (Nat.lt_of_lt_of_le (by have := World.block_lt_of_cell? _ _ hx252_0; first | rwa [add_block] at this | exact this) GW251.out)
              have hn252_1 : ad243.block ≠ gb251 := Nat.ne_of_lt (Nat.lt_of_lt_of_le (by have := World.block_lt_of_cell? _ _ hx252_0; first | rwa [add_block] at this | exact this) GW251.out)
              replace hx252_0 := (HB.out.cell (World.block_lt_of_cell? w _ hx252_0)).trans hx252_0
              replace hx252_1 := (HB.out.cell (World.block_lt_of_cell? w _ hx252_1)).trans hx252_1
              replace hx252_2 := (HB.out.cell (World.block_lt_of_cell? w _ hx252_2)).trans hx252_2
              replace hx252_3 := (HB.out.cell (World.block_lt_of_cell? w _ hx252_3)).trans hx252_3
              replace hx252_4 := (HB.out.cell (World.block_lt_of_cell? w _ hx252_4)).trans hx252_4
              replace hx252_0 := (cell_far (p := ⟨gb251, 0, none⟩) (by first | (rw [add_block]; exact hn252_0) | (show (Addr.add _ _).block ≠ _; rw [add_block]; exact hn252_0) | exact hn252_0) (.int .i64 t248)).trans hx252_0
              replace hx252_1 := (cell_far (p := ⟨gb251, 0, none⟩) (by first | (rw [add_block]; exact hn252_0) | (show (Addr.add _ _).block ≠ _; rw [add_block]; exact hn252_0) | exact hn252_0) (.int .i64 t248)).trans hx252_1
              replace hx252_2 := (cell_far (p := ⟨gb251, 0, none⟩) (by first | (rw [add_block]; exact hn252_0) | (show (Addr.add _ _).block ≠ _; rw [add_block]; exact hn252_0) | exact hn252_0) (.int .i64 t248)).trans hx252_2
              replace hx252_3 := (cell_far (p := ⟨gb251, 0, none⟩) (by first | (rw [add_block]; exact hn252_0) | (show (Addr.add _ _).block ≠ _; rw [add_block]; exact hn252_0) | exact hn252_0) (.int .i64 t248)).trans hx252_3
              replace hx252_4 := (cell_far (p := ⟨gb251, 0, none⟩) (by first | (rw [add_block]; exact hn252_0) | (show (Addr.add _ _).block ≠ _; rw [add_block]; exact hn252_0) | exact hn252_0) (.int .i64 t248)).trans hx252_4
              replace hx252_0 := (cell_far (p := ⟨gb251, 1, none⟩) (by first | (rw [add_block]; exact hn252_1) | (show (Addr.add _ _).block ≠ _; rw [add_block]; exact hn252_1) | exact hn252_1) (.int .i64 t249)).trans hx252_0
              replace hx252_1 := (cell_far (p := ⟨gb251, 1, none⟩) (by first | (rw [add_block]; exact hn252_1) | (show (Addr.add _ _).block ≠ _; rw [add_block]; exact hn252_1) | exact hn252_1) (.int .i64 t249)).trans hx252_1
              replace hx252_2 := (cell_far (p := ⟨gb251, 1, none⟩) (by first | (rw [add_block]; exact hn252_1) | (show (Addr.add _ _).block ≠ _; rw [add_block]; exact hn252_1) | exact hn252_1) (.int .i64 t249)).trans hx252_2
              replace hx252_3 := (cell_far (p := ⟨gb251, 1, none⟩) (by first | (rw [add_block]; exact hn252_1) | (show (Addr.add _ _).block ≠ _; rw [add_block]; exact hn252_1) | exact hn252_1) (.int .i64 t249)).trans hx252_3
              replace hx252_4 := (cell_far (p := ⟨gb251, 1, none⟩) (by first | (rw [add_block]; exact hn252_1) | (show (Addr.add _ _).block ≠ _; rw [add_block]; exact hn252_1) | exact hn252_1) (.int .i64 t249)).trans hx252_4
              clear hn252_0
              clear hn252_1
              replace p252 := eq_true p252
              replace q252 := eq_true q252
              go_wp2
              go_meet
              case rel => exact ⟨_, (!t250), (by first | rfl | (simp; done) | (simp [*]; done)), H', ⟨by have := HJ3.out; have := HJ8.out; have := HK3.out; have := HJ15.out; first | omega | exact Nat.le_refl _⟩, ⟨by (with_reducible repeat (first | apply Kd.R_alloc | apply Kd.R_drewN | apply Kd.R_drew)); exact Kd.R_mono (Kd.R_far (p := ⟨gb251, 1, none⟩) (Kd.R_far (p := ⟨gb251, 0, none⟩) (Kd.R_types HO_7.out BK251.out (by decide)) (fun _ hk => hk.2) (.int .i64 t248)) (fun _ hk => hk.2) (.int .i64 t249)) (fun _ hk => trivial)⟩, ⟨by (with_reducible repeat (first | refine blk_drewN ?_ _ | refine blk_drew ?_ | refine blk_alloc ?_ _)); refine blk_far ?_ NB237_251.out _; (with_reducible repeat (first | refine blk_drewN ?_ _ | refine blk_drew ?_ | refine blk_alloc ?_ _)); refine blk_far ?_ NB237_251.out _; (with_reducible repeat (first | refine blk_drewN ?_ _ | refine blk_drew ?_ | refine blk_alloc ?_ _)); exact BK237.out⟩, ⟨by (with_reducible repeat (first | refine blk_drewN ?_ _ | refine blk_drew ?_ | refine blk_alloc ?_ _)); refine blk_far ?_ NB242_251.out _; (with_reducible repeat (first | refine blk_drewN ?_ _ | refine blk_drew ?_ | refine blk_alloc ?_ _)); refine blk_far ?_ NB242_251.out _; (with_reducible repeat (first | refine blk_drewN ?_ _ | refine blk_drew ?_ | refine blk_alloc ?_ _)); exact BK242.out⟩, ⟨by (with_reducible repeat (first | refine blk_drewN ?_ _ | refine blk_drew ?_ | refine blk_alloc ?_ _)); refine blk_put (cs := #[.int .i64 t248, .int .i64 0]) ?_ 1 _ rfl; (with_reducible repeat (first | refine blk_drewN ?_ _ | refine blk_drew ?_ | refine blk_alloc ?_ _)); refine blk_put (cs := #[.int .i64 0, .int .i64 0]) ?_ 0 _ rfl; (with_reducible repeat (first | refine blk_drewN ?_ _ | refine blk_drew ?_ | refine blk_alloc ?_ _)); exact BK251.out⟩, ⟨by repeat (first | (with_reducible first | exact HB.out | apply below_alloc | apply pw_below_drewN | apply below_drew1 | refine below_set ?_ GE237.out | refine below_set ?_ GE242.out | refine below_set ?_ GE251.out) | exact HB.out)⟩⟩
             ·rw [if_neg c31] at H
              have c31b0 : (((rd_T45 l1 x9_3).f4) == 4) = false := beq_eq_false_iff_ne.mpr c31
              have c31b1 : (((rd_T45 l1 x9_3).f4) != 4) = true := bne_iff_ne.mpr c31
              (first | rw [c31b0] | (simp only [i64_w, i32_w]; rw [c31b0]) | skip)
              have H' := Aside0.mk H
              clear H
              have p252 : 0 ≤ (x9_3 : Int) := of_decide_eq_true (by first | (with_reducible assumption) | assumption)
              have q252 : x9_3 < (l1.length : Int) := of_decide_eq_true (by first | (with_reducible assumption) | assumption)
              obtain ⟨ad252, e252, hx252_0, hx252_1, hx252_2, hx252_3, hx252_4⟩ := at_T45 HR1.out x9_3 p252 q252
              obtain rfl : ad243 = ad252 := (by injection e252)
              have hn252_0 : ad243.block ≠ gb251 := Nat.ne_of_lt (Nat.lt_of_lt_of_le (by have := World.block_lt_of_cell? _ _ hx252_0; first | rwa [add_block] at this | exact this) GW251.out)
              have hn252_1 : ad243.block ≠ gb251 := Nat.ne_of_lt (Nat.lt_of_lt_of_le (by have := World.block_lt_of_cell? _ _ hx252_0; first | rwa [add_block] at this | exact this) GW251.out)
              replace hx252_0 := (HB.out.cell (World.block_lt_of_cell? w _ hx252_0)).trans hx252_0
              replace hx252_1 := (HB.out.cell (World.block_lt_of_cell? w _ hx252_1)).trans hx252_1
              replace hx252_2 := (HB.out.cell (World.block_lt_of_cell? w _ hx252_2)).trans hx252_2
              replace hx252_3 := (HB.out.cell (World.block_lt_of_cell? w _ hx252_3)).trans hx252_3
              replace hx252_4 := (HB.out.cell (World.block_lt_of_cell? w _ hx252_4)).trans hx252_4
              replace hx252_0 := (cell_far (p := ⟨gb251, 0, none⟩) (by first | (rw [add_block]; exact hn252_0) | (show (Addr.add _ _).block ≠ _; rw [add_block]; exact hn252_0) | exact hn252_0) (.int .i64 t248)).trans hx252_0
              replace hx252_1 := (cell_far (p := ⟨gb251, 0, none⟩) (by first | (rw [add_block]; exact hn252_0) | (show (Addr.add _ _).block ≠ _; rw [add_block]; exact hn252_0) | exact hn252_0) (.int .i64 t248)).trans hx252_1
              replace hx252_2 := (cell_far (p := ⟨gb251, 0, none⟩) (by first | (rw [add_block]; exact hn252_0) | (show (Addr.add _ _).block ≠ _; rw [add_block]; exact hn252_0) | exact hn252_0) (.int .i64 t248)).trans hx252_2
              replace hx252_3 := (cell_far (p := ⟨gb251, 0, none⟩) (by first | (rw [add_block]; exact hn252_0) | (show (Addr.add _ _).block ≠ _; rw [add_block]; exact hn252_0) | exact hn252_0) (.int .i64 t248)).trans hx252_3
              replace hx252_4 := (cell_far (p := ⟨gb251, 0, none⟩) (by first | (rw [add_block]; exact hn252_0) | (show (Addr.add _ _).block ≠ _; rw [add_block]; exact hn252_0) | exact hn252_0) (.int .i64 t248)).trans hx252_4
              replace hx252_0 := (cell_far (p := ⟨gb251, 1, none⟩) (by first | (rw [add_block]; exact hn252_1) | (show (Addr.add _ _).block ≠ _; rw [add_block]; exact hn252_1) | exact hn252_1) (.int .i64 t249)).trans hx252_0
              replace hx252_1 := (cell_far (p := ⟨gb251, 1, none⟩) (by first | (rw [add_block]; exact hn252_1) | (show (Addr.add _ _).block ≠ _; rw [add_block]; exact hn252_1) | exact hn252_1) (.int .i64 t249)).trans hx252_1
              replace hx252_2 := (cell_far (p := ⟨gb251, 1, none⟩) (by first | (rw [add_block]; exact hn252_1) | (show (Addr.add _ _).block ≠ _; rw [add_block]; exact hn252_1) | exact hn252_1) (.int .i64 t249)).trans hx252_2
              replace hx252_3 := (cell_far (p := ⟨gb251, 1, none⟩) (by first | (rw [add_block]; exact hn252_1) | (show (Addr.add _ _).block ≠ _; rw [add_block]; exact hn252_1) | exact hn252_1) (.int .i64 t249)).trans hx252_3
              replace hx252_4 := (cell_far (p := ⟨gb251, 1, none⟩) (by first | (rw [add_block]; exact hn252_1) | (show (Addr.add _ _).block ≠ _; rw [add_block]; exact hn252_1) | exact hn252_1) (.int .i64 t249)).trans hx252_4
              clear hn252_0
              clear hn252_1
              replace p252 := eq_true p252
              replace q252 := eq_true q252
              go_wp2
              go_meet
              case rel => exact ⟨_, (false), (by first | rfl | (simp; done) | (simp [*]; done)), H', ⟨by have := HJ3.out; have := HJ8.out; have := HK3.out; have := HJ15.out; first | omega | exact Nat.le_refl _⟩, ⟨by (with_reducible repeat (first | apply Kd.R_alloc | apply Kd.R_drewN | apply Kd.R_drew)); exact Kd.R_mono (Kd.R_far (p := ⟨gb251, 1, none⟩) (Kd.R_far (p := ⟨gb251, 0, none⟩) (Kd.R_types HO_7.out BK251.out (by decide)) (fun _ hk => hk.2) (.int .i64 t248)) (fun _ hk => hk.2) (.int .i64 t249)) (fun _ hk => trivial)⟩, ⟨by (with_reducible repeat (first | refine blk_drewN ?_ _ | refine blk_drew ?_ | refine blk_alloc ?_ _)); refine blk_far ?_ NB237_251.out _; (with_reducible repeat (first | refine blk_drewN ?_ _ | refine blk_drew ?_ | refine blk_alloc ?_ _)); refine blk_far ?_ NB237_251.out _; (with_reducible repeat (first | refine blk_drewN ?_ _ | refine blk_drew ?_ | refine blk_alloc ?_ _)); exact BK237.out⟩, ⟨by (with_reducible repeat (first | refine blk_drewN ?_ _ | refine blk_drew ?_ | refine blk_alloc ?_ _)); refine blk_far ?_ NB242_251.out _; (with_reducible repeat (first | refine blk_drewN ?_ _ | refine blk_drew ?_ | refine blk_alloc ?_ _)); refine blk_far ?_ NB242_251.out _; (with_reducible repeat (first | refine blk_drewN ?_ _ | refine blk_drew ?_ | refine blk_alloc ?_ _)); exact BK242.out⟩, ⟨by (with_reducible repeat (first | refine blk_drewN ?_ _ | refine blk_drew ?_ | refine blk_alloc ?_ _)); refine blk_put (cs := #[.int .i64 t248, .int .i64 0]) ?_ 1 _ rfl; (with_reducible repeat (first | refine blk_drewN ?_ _ | refine blk_drew ?_ | refine blk_alloc ?_ _)); refine blk_put (cs := #[.int .i64 0, .int .i64 0]) ?_ 0 _ rfl; (with_reducible repeat (first | refine blk_drewN ?_ _ | refine blk_drew ?_ | refine blk_alloc ?_ _)); exact BK251.out⟩, ⟨by repeat (first | (with_reducible first | exact HB.out | apply below_alloc | apply pw_below_drewN | apply below_drew1 | refine below_set ?_ GE237.out | refine below_set ?_ GE242.out | refine below_set ?_ GE251.out) | exact HB.out)⟩⟩
            case rest =>
             clear HC23
             try clear c1
             try clear c2
             try clear p2
             try clear q2
             try clear hx2
             try clear c3
             try clear c8
             try clear c8b0
             try clear c8b1
             try clear c10
             try clear c10b0
             try clear c10b1
             try clear c14
             try clear c16
             try clear c17
             try clear c17b0
             try clear c18
             try clear c18b0
             try clear c19
             try clear c19b0
             try clear c21
             try clear c21b0
             try clear c21b1
             try clear p24
             try clear q24
             try clear hx24
             try clear p25
             try clear q25
             try clear hx25
             try clear c31
             try clear c31b0
             try clear c31b1
             try clear hcz15_0
             try clear hcz15_1
             try clear hcz6_0
             try clear hcz6_1
             try clear hfz15_0
             try clear hfz15_1
             try clear hfz6_0
             try clear hfz6_1
             try clear hx243_0
             try clear hx243_1
             try clear hx243_2
             try clear hx243_3
             try clear hx243_4
             try clear hx245_0
             try clear hx245_1
             try clear hx245_2
             try clear hx245_3
             try clear hx245_4
             try clear hx246_0
             try clear hx246_1
             try clear hx246_2
             try clear hx246_3
             try clear hx246_4
             try clear hx252_0
             try clear hx252_1
             try clear hx252_2
             try clear hx252_3
             try clear hx252_4
             try clear p2
             try clear p243
             try clear p245
             try clear p246
             try clear p252
             try clear q243
             try clear q245
             try clear q246
             try clear q252
             obtain ⟨kq, x65_22, rfl, HA, HJ22, HO_7, BK237, BK242, BK251, HB⟩ := hcut
             cases kq with
             | zero => exact absurd HA.out (by simp [signalbenchref19_Encode.j4])
             | succ kj22 =>
              have H := HA.out
              clear HA
              simp only [signalbenchref19_Encode.j4] at H
              by_cases c32 : x65_22 = true
              ·subst c32
               have H1 : (some (([] : List (S45)), 17)) = some (r1, r2) := by rw [if_pos rfl] at H; exact H
               clear H
               have H := H1
               clear H1
               simp only [Option.some.injEq, Prod.mk.injEq] at H
               obtain ⟨rfl, rfl⟩ := H
               go_wp2
               go_ret2
               exact ⟨_, by first | rfl | (simp [errW_none, errW_some] <;> rfl) | (simp [*, errW_none, errW_some] <;> rfl), by first | exact Kd.R_nil _ _ _ _ _ | exact Kd.N_nil _ _ _ _ _ | exact Kd.V_nil _ _ _ _ _ | exact Kd.Q_nil _ _ _ _ _ | exact Kd.S_nil _ _ _ _ _, by repeat (first | (with_reducible first | exact HB.out | apply below_alloc | apply pw_below_drewN | apply below_drew1 | refine below_set ?_ GE237.out | refine below_set ?_ GE242.out | refine below_set ?_ GE251.out) | exact HB.out)⟩
              ·replace c32 := Bool.eq_false_iff.mpr c32
               subst c32
               have H1 : (if (t247.size : Int) > 4096 then (some (([] : List (S45)), 6)) else (if 0 ≤ x9_3 then (if x9_3 < (l1.length : Int) then (if ((rd_T45 l1 x9_3).f1) = 0 then (if ((rd_T45 l1 x9_3).f2) = 0 then (if x7_3.length < 2932031007402 then (signalbenchref19_Encode.l0 kj22 l1 (x7_3 ++ [(⟨(rd_T45 l1 x9_3).f0, 0, 0, t247, 0⟩ : S45)]) (wrap64 (x9_3 + 1)) a0_0 a0_1 t248 t249) else (none)) else (some (([] : List (S45)), 1))) else (some (([] : List (S45)), 1))) else (none)) else (none))) = some (r1, r2) := by rw [if_neg (show ¬ (false = true) by decide)] at H; exact H
               clear H
               have H := H1
               clear H1
               by_cases c33 : (t247.size : Int) > 4096
               ·rw [if_pos c33] at H
                have c33b0 : decide (4096 < (t247.size : Int)) = true := decide_eq_true c33
                have c33b1 : decide (4096 < t247.size) = true := decide_eq_true (by omega)
                clear c33
                simp only [Option.some.injEq, Prod.mk.injEq] at H
                obtain ⟨rfl, rfl⟩ := H
                go_wp2
                go_ret2
                exact ⟨_, by first | rfl | (simp [errW_none, errW_some] <;> rfl) | (simp [*, errW_none, errW_some] <;> rfl), by first | exact Kd.R_nil _ _ _ _ _ | exact Kd.N_nil _ _ _ _ _ | exact Kd.V_nil _ _ _ _ _ | exact Kd.Q_nil _ _ _ _ _ | exact Kd.S_nil _ _ _ _ _, by repeat (first | (with_reducible first | exact HB.out | apply below_alloc | apply pw_below_drewN | apply below_drew1 | refine below_set ?_ GE237.out | refine below_set ?_ GE242.out | refine below_set ?_ GE251.out) | exact HB.out)⟩
               ·rw [if_neg c33] at H
                have c33b0 : decide (4096 < (t247.size : Int)) = false := decide_eq_false c33
                have c33b1 : decide (4096 < t247.size) = false := decide_eq_false (by omega)
                clear c33
                by_cases c34 : 0 ≤ x9_3
                ·rw [if_pos c34] at H
                 have c34b0 : decide (0 ≤ x9_3) = true := decide_eq_true c34
                 clear c34
                 by_cases c35 : x9_3 < (l1.length : Int)
                 ·rw [if_pos c35] at H
                  have c35b0 : decide (x9_3 < (l1.length : Int)) = true := decide_eq_true c35
                  clear c35
                  by_cases c36 : ((rd_T45 l1 x9_3).f1) = 0
                  ·rw [if_pos c36] at H
                   have c36b0 : (((rd_T45 l1 x9_3).f1) == 0) = true := beq_iff_eq.mpr c36
                   have c36b1 : (((rd_T45 l1 x9_3).f1) != 0) = false := bne_eq_false_iff_eq.mpr c36
                   clear c36
                   by_cases c37 : ((rd_T45 l1 x9_3).f2) = 0
                   ·rw [if_pos c37] at H
                    have c37b0 : (((rd_T45 l1 x9_3).f2) == 0) = true := beq_iff_eq.mpr c37
                    have c37b1 : (((rd_T45 l1 x9_3).f2) != 0) = false := bne_eq_false_iff_eq.mpr c37
                    clear c37
                    by_cases c38 : x7_3.length < 2932031007402
                    ·rw [if_pos c38] at H
                     have LMc38 := Aside0.mk c38
                     clear c38
                     obtain ⟨y256, hy256⟩ : ∃ y_ : List (S45), y_ = (x7_3 ++ [(⟨(rd_T45 l1 x9_3).f0, 0, 0, t247, 0⟩ : S45)]) := ⟨_, rfl⟩
                     replace H : (signalbenchref19_Encode.l0 kj22 l1 y256 (wrap64 (x9_3 + 1)) a0_0 a0_1 t248 t249) = some (r1, r2) := by first | (rw [hy256]; with_reducible exact H) | (have H2_ := (Option.bind_some _ _).symm.trans H; rw [hy256]; with_reducible exact H2_) | (have H2_ := (Option.bind_some _ _).symm.trans H; with_reducible exact H2_) | with_reducible exact H | (rw [hy256]; exact H) | exact H
                     have Ny256 := Aside0.mk hy256
                     clear hy256
                     have H' := Aside0.mk H
                     clear H
                     have p253 : 0 ≤ (x9_3 : Int) := of_decide_eq_true (by first | (with_reducible assumption) | assumption)
                     have q253 : x9_3 < (l1.length : Int) := of_decide_eq_true (by first | (with_reducible assumption) | assumption)
                     obtain ⟨ad253, e253, hx253_0, hx253_1, hx253_2, hx253_3, hx253_4⟩ := at_T45 HR1.out x9_3 p253 q253
                     obtain rfl : ad243 = ad253 := (by injection e253)
                     replace hx253_0 := (HB.out.cell (World.block_lt_of_cell? w _ hx253_0)).trans hx253_0
                     replace hx253_1 := (HB.out.cell (World.block_lt_of_cell? w _ hx253_1)).trans hx253_1
                     replace hx253_2 := (HB.out.cell (World.block_lt_of_cell? w _ hx253_2)).trans hx253_2
                     replace hx253_3 := (HB.out.cell (World.block_lt_of_cell? w _ hx253_3)).trans hx253_3
                     replace hx253_4 := (HB.out.cell (World.block_lt_of_cell? w _ hx253_4)).trans hx253_4
                     replace p253 := eq_true p253
                     replace q253 := eq_true q253
                     have p254 : 0 ≤ (x9_3 : Int) := of_decide_eq_true (by first | (with_reducible assumption) | assumption)
                     have q254 : x9_3 < (l1.length : Int) := of_decide_eq_true (by first | (with_reducible assumption) | assumption)
                     obtain ⟨ad254, e254, hx254_0, hx254_1, hx254_2, hx254_3, hx254_4⟩ := at_T45 HR1.out x9_3 p254 q254
                     obtain rfl : ad243 = ad254 := (by injection e254)
                     replace hx254_0 := (HB.out.cell (World.block_lt_of_cell? w _ hx254_0)).trans hx254_0
                     replace hx254_1 := (HB.out.cell (World.block_lt_of_cell? w _ hx254_1)).trans hx254_1
                     replace hx254_2 := (HB.out.cell (World.block_lt_of_cell? w _ hx254_2)).trans hx254_2
                     replace hx254_3 := (HB.out.cell (World.block_lt_of_cell? w _ hx254_3)).trans hx254_3
                     replace hx254_4 := (HB.out.cell (World.block_lt_of_cell? w _ hx254_4)).trans hx254_4
                     replace p254 := eq_true p254
                     replace q254 := eq_true q254
                     have p255 : 0 ≤ (x9_3 : Int) := of_decide_eq_true (by first | (with_reducible assumption) | assumption)
                     have q255 : x9_3 < (l1.length : Int) := of_decide_eq_true (by first | (with_reducible assumption) | assumption)
                     obtain ⟨ad255, e255, hx255_0, hx255_1, hx255_2, hx255_3, hx255_4⟩ := at_T45 HR1.out x9_3 p255 q255
                     obtain rfl : ad243 = ad255 := (by injection e255)
                     replace hx255_0 := (HB.out.cell (World.block_lt_of_cell? w _ hx255_0)).trans hx255_0
                     replace hx255_1 := (HB.out.cell (World.block_lt_of_cell? w _ hx255_1)).trans hx255_1
                     replace hx255_2 := (HB.out.cell (World.block_lt_of_cell? w _ hx255_2)).trans hx255_2
                     replace hx255_3 := (HB.out.cell (World.block_lt_of_cell? w _ hx255_3)).trans hx255_3
                     replace hx255_4 := (HB.out.cell (World.block_lt_of_cell? w _ hx255_4)).trans hx255_4
                     replace p255 := eq_true p255
                     replace q255 := eq_true q255
                     go_wp2_with (first | ((with_reducible refine gate_builtin (b := .append) (xs := #[.tmp 83, .tmp 91]) rfl ?_); at_builtin; refine Kd.R_append k45 (w0 := w) w.heap.size rfl (.tmp 83) (.tmp 91) 40 45 (.agg #[(.int .i64 0), (.int .i64 0), (.int .i64 0), (.string ⟨#[]⟩), (.int .i64 0)]) 48 rfl Try.underlying40 info45 rfl (by decide) (by omega) u7 x7_3 (⟨(rd_T45 l1 x9_3).f0, 0, 0, t247, 0⟩ : S45) [.int .i64 ((rd_T45 l1 x9_3).f0), .int .i64 0, .int .i64 0, .string t247, .int .i64 0] (fun _ => True) (fun _ => False) rfl rfl ?aP (fun _ hk => hk.elim) ?aF ?aO ?aB ?aS ?aL ?_; (case aP => exact k45_mkM _ _ _ (⟨(rd_T45 l1 x9_3).f0, 0, 0, t247, 0⟩ : S45)); (case aB => exact (hbw HB.out)); (case aF => exact (fun _ _ => trivial)); (case aO => exact (rkw HO_7.out)); (case aS => exact (below_size (hbw HB.out))); (case aL => have := LMc38.out; omega); intro v257 w39 ho hb hg hat; rw [← Ny256.out] at ho; have n0_ := Aside0.mk (blkg BK237.out hg (Kd.R_ne HO_7.out BK237.out (by decide))); have n1_ := Aside0.mk (blkg BK242.out hg (Kd.R_ne HO_7.out BK242.out (by decide))); have n2_ := Aside0.mk (blkg BK251.out hg (Kd.R_ne HO_7.out BK251.out (by decide))); have n3_ := Aside0.mk (hb); have n4_ := Aside0.mk (ho); clear BK237; clear BK242; clear BK251; clear HB; clear HO_7; have BK237 := n0_; have BK242 := n1_; have BK251 := n2_; have HB := n3_; have HO258 := n4_; clear n0_ n1_ n2_ n3_ n4_; clear ho hb hg hat; have hnb40 := NB251_237.out; have hnc40 := NB237_251.out; have hnb41 := NB251_242.out; have hnc41 := NB242_251.out; have hcz42_0 : w39.cell? ⟨gb251, 0, none⟩ = some (.int .i64 t248) := (blk_cell BK251.out 0).trans rfl; have hcz42_1 : w39.cell? ⟨gb251, 1, none⟩ = some (.int .i64 t249) := (blk_cell BK251.out 1).trans rfl; have hfz42_0 := blk_frozen BK251.out 0; have hfz42_1 := blk_frozen BK251.out 1; have hnb43 := NB242_237.out; have hnc43 := NB237_242.out; have hcz44_0 : w39.cell? ⟨gb242, 0, none⟩ = some (.int .i64 x243000_3) := (blk_cell BK242.out 0).trans rfl; have hcz44_1 : w39.cell? ⟨gb242, 1, none⟩ = some (.int .i64 x243001_3) := (blk_cell BK242.out 1).trans rfl; have hfz44_0 := blk_frozen BK242.out 0; have hfz44_1 := blk_frozen BK242.out 1))
                     go_roundg kj22
                     case measure => have := HJ3.out; have := HJ8.out; have := HK3.out; have := HJ15.out; have := HJ22.out; omega
                     case rel => exact ⟨(y256), (wrap64 (x9_3 + 1)), (t248), (t249), (by first | rfl | (simp; done) | (simp [*]; done)), H', ⟨by have := HJ3.out; have := HJ8.out; have := HK3.out; have := HJ15.out; have := HJ22.out; omega⟩, ⟨by (with_reducible repeat (first | apply Kd.R_alloc | apply Kd.R_drewN | apply Kd.R_drew)); exact Kd.R_mono (Kd.R_far (p := ⟨gb242, 1, none⟩) (Kd.R_far (p := ⟨gb242, 0, none⟩) (Kd.R_types HO258.out BK242.out (by decide)) (fun _ hk => hk.2) (.int .i64 t248)) (fun _ hk => hk.2) (.int .i64 t249)) (fun _ hk => trivial)⟩, ⟨by (with_reducible repeat (first | refine blk_drewN ?_ _ | refine blk_drew ?_ | refine blk_alloc ?_ _)); refine blk_far ?_ NB237_242.out _; (with_reducible repeat (first | refine blk_drewN ?_ _ | refine blk_drew ?_ | refine blk_alloc ?_ _)); refine blk_far ?_ NB237_242.out _; (with_reducible repeat (first | refine blk_drewN ?_ _ | refine blk_drew ?_ | refine blk_alloc ?_ _)); exact BK237.out⟩, ⟨by (with_reducible repeat (first | refine blk_drewN ?_ _ | refine blk_drew ?_ | refine blk_alloc ?_ _)); refine blk_put (cs := #[.int .i64 t248, .int .i64 x243001_3]) ?_ 1 _ rfl; (with_reducible repeat (first | refine blk_drewN ?_ _ | refine blk_drew ?_ | refine blk_alloc ?_ _)); refine blk_put (cs := #[.int .i64 x243000_3, .int .i64 x243001_3]) ?_ 0 _ rfl; (with_reducible repeat (first | refine blk_drewN ?_ _ | refine blk_drew ?_ | refine blk_alloc ?_ _)); exact BK242.out⟩, ⟨by repeat (first | (with_reducible first | exact HB.out | apply below_alloc | apply pw_below_drewN | apply below_drew1 | refine below_set ?_ GE237.out | refine below_set ?_ GE242.out | refine below_set ?_ GE251.out) | exact HB.out)⟩⟩
                    ·rw [if_neg c38] at H
                     exact absurd H (by simp)
                   ·rw [if_neg c37] at H
                    have c37b0 : (((rd_T45 l1 x9_3).f2) == 0) = false := beq_eq_false_iff_ne.mpr c37
                    have c37b1 : (((rd_T45 l1 x9_3).f2) != 0) = true := bne_iff_ne.mpr c37
                    simp only [Option.some.injEq, Prod.mk.injEq] at H
                    obtain ⟨rfl, rfl⟩ := H
                    have p253 : 0 ≤ (x9_3 : Int) := of_decide_eq_true (by first | (with_reducible assumption) | assumption)
                    have q253 : x9_3 < (l1.length : Int) := of_decide_eq_true (by first | (with_reducible assumption) | assumption)
                    obtain ⟨ad253, e253, hx253_0, hx253_1, hx253_2, hx253_3, hx253_4⟩ := at_T45 HR1.out x9_3 p253 q253
                    obtain rfl : ad243 = ad253 := (by injection e253)
                    replace hx253_0 := (HB.out.cell (World.block_lt_of_cell? w _ hx253_0)).trans hx253_0
                    replace hx253_1 := (HB.out.cell (World.block_lt_of_cell? w _ hx253_1)).trans hx253_1
                    replace hx253_2 := (HB.out.cell (World.block_lt_of_cell? w _ hx253_2)).trans hx253_2
                    replace hx253_3 := (HB.out.cell (World.block_lt_of_cell? w _ hx253_3)).trans hx253_3
                    replace hx253_4 := (HB.out.cell (World.block_lt_of_cell? w _ hx253_4)).trans hx253_4
                    replace p253 := eq_true p253
                    replace q253 := eq_true q253
                    have p254 : 0 ≤ (x9_3 : Int) := of_decide_eq_true (by first | (with_reducible assumption) | assumption)
                    have q254 : x9_3 < (l1.length : Int) := of_decide_eq_true (by first | (with_reducible assumption) | assumption)
                    obtain ⟨ad254, e254, hx254_0, hx254_1, hx254_2, hx254_3, hx254_4⟩ := at_T45 HR1.out x9_3 p254 q254
                    obtain rfl : ad243 = ad254 := (by injection e254)
                    replace hx254_0 := (HB.out.cell (World.block_lt_of_cell? w _ hx254_0)).trans hx254_0
                    replace hx254_1 := (HB.out.cell (World.block_lt_of_cell? w _ hx254_1)).trans hx254_1
                    replace hx254_2 := (HB.out.cell (World.block_lt_of_cell? w _ hx254_2)).trans hx254_2
                    replace hx254_3 := (HB.out.cell (World.block_lt_of_cell? w _ hx254_3)).trans hx254_3
                    replace hx254_4 := (HB.out.cell (World.block_lt_of_cell? w _ hx254_4)).trans hx254_4
                    replace p254 := eq_true p254
                    replace q254 := eq_true q254
                    go_wp2
                    go_ret2
                    exact ⟨_, by first | rfl | (simp [errW_none, errW_some] <;> rfl) | (simp [*, errW_none, errW_some] <;> rfl), by first | exact Kd.R_nil _ _ _ _ _ | exact Kd.N_nil _ _ _ _ _ | exact Kd.V_nil _ _ _ _ _ | exact Kd.Q_nil _ _ _ _ _ | exact Kd.S_nil _ _ _ _ _, by repeat (first | (with_reducible first | exact HB.out | apply below_alloc | apply pw_below_drewN | apply below_drew1 | refine below_set ?_ GE237.out | refine below_set ?_ GE242.out | refine below_set ?_ GE251.out) | exact HB.out)⟩
                  ·rw [if_neg c36] at H
                   have c36b0 : (((rd_T45 l1 x9_3).f1) == 0) = false := beq_eq_false_iff_ne.mpr c36
                   have c36b1 : (((rd_T45 l1 x9_3).f1) != 0) = true := bne_iff_ne.mpr c36
                   simp only [Option.some.injEq, Prod.mk.injEq] at H
                   obtain ⟨rfl, rfl⟩ := H
                   have p253 : 0 ≤ (x9_3 : Int) := of_decide_eq_true (by first | (with_reducible assumption) | assumption)
                   have q253 : x9_3 < (l1.length : Int) := of_decide_eq_true (by first | (with_reducible assumption) | assumption)
                   obtain ⟨ad253, e253, hx253_0, hx253_1, hx253_2, hx253_3, hx253_4⟩ := at_T45 HR1.out x9_3 p253 q253
                   obtain rfl : ad243 = ad253 := (by injection e253)
                   replace hx253_0 := (HB.out.cell (World.block_lt_of_cell? w _ hx253_0)).trans hx253_0
                   replace hx253_1 := (HB.out.cell (World.block_lt_of_cell? w _ hx253_1)).trans hx253_1
                   replace hx253_2 := (HB.out.cell (World.block_lt_of_cell? w _ hx253_2)).trans hx253_2
                   replace hx253_3 := (HB.out.cell (World.block_lt_of_cell? w _ hx253_3)).trans hx253_3
                   replace hx253_4 := (HB.out.cell (World.block_lt_of_cell? w _ hx253_4)).trans hx253_4
                   replace p253 := eq_true p253
                   replace q253 := eq_true q253
                   go_wp2
                   go_ret2
                   exact ⟨_, by first | rfl | (simp [errW_none, errW_some] <;> rfl) | (simp [*, errW_none, errW_some] <;> rfl), by first | exact Kd.R_nil _ _ _ _ _ | exact Kd.N_nil _ _ _ _ _ | exact Kd.V_nil _ _ _ _ _ | exact Kd.Q_nil _ _ _ _ _ | exact Kd.S_nil _ _ _ _ _, by repeat (first | (with_reducible first | exact HB.out | apply below_alloc | apply pw_below_drewN | apply below_drew1 | refine below_set ?_ GE237.out | refine below_set ?_ GE242.out | refine below_set ?_ GE251.out) | exact HB.out)⟩
                 ·rw [if_neg c35] at H
                  exact absurd H (by simp)
                ·rw [if_neg c34] at H
                 exact absurd H (by simp)
           ·rw [if_neg c21] at H
            have c21b0 : (t244 == 0) = false := beq_eq_false_iff_ne.mpr c21
            have c21b1 : (t244 != 0) = true := bne_iff_ne.mpr c21
            simp only [Option.some.injEq, Prod.mk.injEq] at H
            obtain ⟨rfl, rfl⟩ := H
            have p243 : 0 ≤ (x9_3 : Int) := of_decide_eq_true (by first | (with_reducible assumption) | assumption)
            have q243 : x9_3 < (l1.length : Int) := of_decide_eq_true (by first | (with_reducible assumption) | assumption)
            obtain ⟨ad243, e243, hx243_0, hx243_1, hx243_2, hx243_3, hx243_4⟩ := at_T45 HR1.out x9_3 p243 q243
            cases e243
            replace hx243_0 := (HB.out.cell (World.block_lt_of_cell? w _ hx243_0)).trans hx243_0
            replace hx243_1 := (HB.out.cell (World.block_lt_of_cell? w _ hx243_1)).trans hx243_1
            replace hx243_2 := (HB.out.cell (World.block_lt_of_cell? w _ hx243_2)).trans hx243_2
            replace hx243_3 := (HB.out.cell (World.block_lt_of_cell? w _ hx243_3)).trans hx243_3
            replace hx243_4 := (HB.out.cell (World.block_lt_of_cell? w _ hx243_4)).trans hx243_4
            replace p243 := eq_true p243
            replace q243 := eq_true q243
            go_wp2_with (first | ((with_reducible refine gate_callee (f := 31) rfl ?_); refine goesL_ (some 34) rfl rfl Try.func31 (by kernel_rfl) rfl #[.agg #[.int .i64 ((rd_T45 l1 x9_3).f0), .int .i64 ((rd_T45 l1 x9_3).f1), .int .i64 ((rd_T45 l1 x9_3).f2), .string ((rd_T45 l1 x9_3).f3), .int .i64 ((rd_T45 l1 x9_3).f4)]] rfl (by (try simp only [List.map_toArray, List.map_cons, List.map_nil]); first | done | rfl | (simp only [List.length_drop, List.length_take]; rfl)) ?_; (with_reducible refine (signalbenchref19_wrong.calls kj15 ((rd_T45 l1 x9_3).f0) ((rd_T45 l1 x9_3).f1) ((rd_T45 l1 x9_3).f2) ((rd_T45 l1 x9_3).f3) ((rd_T45 l1 x9_3).f4) t244 _ A20.out).mono ?_); rintro e w45 ⟨rfl, hb⟩; refine ⟨_, rfl, ?_⟩; have n0_ := Aside0.mk (Kd.R_below (rkw HO_7.out) hb); have n1_ := Aside0.mk (blkb BK237.out hb); have n2_ := Aside0.mk (blkb BK242.out hb); have n3_ := Aside0.mk (below_step (hbw HB.out) hb); clear HO_7; clear BK237; clear BK242; clear HB; have HO_7 := n0_; have BK237 := n1_; have BK242 := n2_; have HB := n3_; clear n0_ n1_ n2_ n3_; (try clear hb); (try clear hb2); (try clear hk); (try clear hi)))
            go_ret2
            exact ⟨_, by first | rfl | (simp [errW_none, errW_some] <;> rfl) | (simp [*, errW_none, errW_some] <;> rfl), by first | exact Kd.R_nil _ _ _ _ _ | exact Kd.N_nil _ _ _ _ _ | exact Kd.V_nil _ _ _ _ _ | exact Kd.Q_nil _ _ _ _ _ | exact Kd.S_nil _ _ _ _ _, by repeat (first | (with_reducible first | exact HB.out | apply below_alloc | apply pw_below_drewN | apply below_drew1 | refine below_set ?_ GE237.out | refine below_set ?_ GE242.out) | exact HB.out)⟩
          ·rw [if_neg c19] at H
           exact absurd H (by simp)
         ·rw [if_neg c18] at H
          exact absurd H (by simp)

end Go.Proofs.Ytpgeomgaphodkaa.PStuffEncodes
