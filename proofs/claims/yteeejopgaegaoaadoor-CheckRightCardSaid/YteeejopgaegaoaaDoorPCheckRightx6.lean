-- Written by a program of this session (wip/tools/pr.py), which calls the kit's print with changes of its own.
import Derived.Test.YteeejopgaegaoaaDoorPCheckRightx0
import Derived.Test.YteeejopgaegaoaaDoorPCheckRightx1
import Derived.Test.YteeejopgaegaoaaDoorPCheckRightx2
import Derived.Test.YteeejopgaegaoaaDoorPCheckRightx5
namespace Go.Proofs.YteeejopgaegaoaaDoor.PCheckRight
open Go.RowKit Go.Proofs.YteeejopgaegaoaaDoorW.PrintWords Go.Proofs.YteeejopgaegaoaaDoorW.PrintLast Go.Proofs.YteeejopgaegaoaaDoorW.PrintMore
attribute [local go_sem] max2_int min2_int max_two min_two max_three min_three max_four min_four   -- for this text's walks alone
set_option linter.unusedVariables false
set_option linter.unusedSimpArgs false

attribute [local go_sem high] eqA23
/-! ### signalbenchlaw04_CheckRight: function 9 -/
mutual
def signalbenchlaw04_CheckRight.j0 : Nat → Bool → Bool → List ByteArray → List ByteArray → Int → Int → Int → Int → Bool → Int → Int → Int → Int → Bool → Int → Int → Int → Int → Bool → Option (Bool)
 | 0, _, _, _, _, _, _, _, _, _, _, _, _, _, _, _, _, _, _, _ => none
 | k + 1, x6, x8, x9, x10, x144000, x144001, x144002, x144003, x144004, x151000, x151001, x151002, x151003, x151004, x158000, x158001, x158002, x158003, x158004 => signalbenchlaw04_CheckRight.l0 k x6 x8 x9 x10 0 x144000 x144001 x144002 x144003 x144004 x151000 x151001 x151002 x151003 x151004 x158000 x158001 x158002 x158003 x158004
def signalbenchlaw04_CheckRight.l0 : Nat → Bool → Bool → List ByteArray → List ByteArray → Int → Int → Int → Int → Int → Bool → Int → Int → Int → Int → Bool → Int → Int → Int → Int → Bool → Option (Bool)
 | 0, _, _, _, _, _, _, _, _, _, _, _, _, _, _, _, _, _, _, _, _ => none
 | k + 1, x6, x8, x9, x10, x11, x144000, x144001, x144002, x144003, x144004, x151000, x151001, x151002, x151003, x151004, x158000, x158001, x158002, x158003, x158004 => if x11 < (x10.length : Int) then (if 0 ≤ x11 then (if x11 < (x9.length : Int) then (if (rdOf ByteArray.empty x9 x11).toList = (rdOf ByteArray.empty x10 x11).toList then (signalbenchlaw04_CheckRight.l0 k x6 x8 x9 x10 (wrap64 (x11 + 1)) x144000 x144001 x144002 x144003 x144004 x151000 x151001 x151002 x151003 x151004 x158000 x158001 x158002 x158003 x158004) else (some false)) else (none)) else (none)) else ((check_Right.f k x144000 x144001 x144002 x144003 x144004).bind fun t166 => ((signalbenchref04_Right.f x144000 x144001 x144002 x144003 x144004).bind fun t167 => (if (t166 == t167) = true then (if (x151000 == x158000 && (x151001 == x158001 && (x151002 == x158002 && (x151003 == x158003 && (x151004 == x158004))))) = true then (if (x6 == x8) = true then ((signalbenchlaw04_awake.f k).bind fun t168 => (some t168)) else (some false)) else (some false)) else (some false))))
end
def signalbenchlaw04_CheckRight.f (k : Nat) (a0_0 : Int) (a0_1 : Int) (a0_2 : Int) (a0_3 : Int) (a0_4 : Bool) (a1 : ByteArray) : Option (Bool) := (check_Named.f a1).bind fun bt144 => ((signalbenchref04_Named.f a1).bind fun bt151 => ((check_Names.f).bind fun t158 => ((signalbenchref04_Names.f).bind fun t161 => (if (t158.length : Int) = (t161.length : Int) then (signalbenchlaw04_CheckRight.j0 k bt144.2.2.2.2.2 bt151.2.2.2.2.2 t158 t161 a0_0 a0_1 a0_2 a0_3 a0_4 bt144.1 bt144.2.1 bt144.2.2.1 bt144.2.2.2.1 bt144.2.2.2.2.1 bt151.1 bt151.2.1 bt151.2.2.1 bt151.2.2.2.1 bt151.2.2.2.2.1) else (some false)))))
theorem signalbenchlaw04_CheckRight.mono_l : ∀ k, (∀ y0 y1 y2 y3 y4 y5 y6 y7 y8 y9 y10 y11 y12 y13 y14 y15 y16 y17 y18, LeO (signalbenchlaw04_CheckRight.j0 k y0 y1 y2 y3 y4 y5 y6 y7 y8 y9 y10 y11 y12 y13 y14 y15 y16 y17 y18) (signalbenchlaw04_CheckRight.j0 (k + 1) y0 y1 y2 y3 y4 y5 y6 y7 y8 y9 y10 y11 y12 y13 y14 y15 y16 y17 y18)) ∧ (∀ y0 y1 y2 y3 y4 y5 y6 y7 y8 y9 y10 y11 y12 y13 y14 y15 y16 y17 y18 y19, LeO (signalbenchlaw04_CheckRight.l0 k y0 y1 y2 y3 y4 y5 y6 y7 y8 y9 y10 y11 y12 y13 y14 y15 y16 y17 y18 y19) (signalbenchlaw04_CheckRight.l0 (k + 1) y0 y1 y2 y3 y4 y5 y6 y7 y8 y9 y10 y11 y12 y13 y14 y15 y16 y17 y18 y19))
 | 0 => ⟨fun _ _ _ _ _ _ _ _ _ _ _ _ _ _ _ _ _ _ _ r h => by simp [signalbenchlaw04_CheckRight.j0] at h, fun _ _ _ _ _ _ _ _ _ _ _ _ _ _ _ _ _ _ _ _ r h => by simp [signalbenchlaw04_CheckRight.l0] at h⟩
 | k + 1 => by
  obtain ⟨ih0, ih1⟩ := signalbenchlaw04_CheckRight.mono_l k
  refine ⟨?_, ?_⟩
  ·intro y0 y1 y2 y3 y4 y5 y6 y7 y8 y9 y10 y11 y12 y13 y14 y15 y16 y17 y18
   unfold signalbenchlaw04_CheckRight.j0
   repeat' first
   | (with_reducible exact ih0 _ _ _ _ _ _ _ _ _ _ _ _ _ _ _ _ _ _ _)
   | (with_reducible exact ih1 _ _ _ _ _ _ _ _ _ _ _ _ _ _ _ _ _ _ _ _)
   | (with_reducible exact check_Right.mono _ _ _ _ _ _)
   | (with_reducible exact signalbenchlaw04_awake.mono _)
   | (with_reducible exact LeO.refl _)
   | (with_reducible exact LeO.none _)
   | (with_reducible refine LeO.ite ?_ ?_)
   | (with_reducible refine LeO.bind ?_ (fun _ => ?_))
   | exact ih0 _ _ _ _ _ _ _ _ _ _ _ _ _ _ _ _ _ _ _
   | exact ih1 _ _ _ _ _ _ _ _ _ _ _ _ _ _ _ _ _ _ _ _
   | exact check_Right.mono _ _ _ _ _ _
   | exact signalbenchlaw04_awake.mono _
   | exact LeO.none _
   | refine LeO.ite ?_ ?_
   | refine LeO.bind ?_ (fun _ => ?_)
  ·intro y0 y1 y2 y3 y4 y5 y6 y7 y8 y9 y10 y11 y12 y13 y14 y15 y16 y17 y18 y19
   unfold signalbenchlaw04_CheckRight.l0
   repeat' first
   | (with_reducible exact ih0 _ _ _ _ _ _ _ _ _ _ _ _ _ _ _ _ _ _ _)
   | (with_reducible exact ih1 _ _ _ _ _ _ _ _ _ _ _ _ _ _ _ _ _ _ _ _)
   | (with_reducible exact check_Right.mono _ _ _ _ _ _)
   | (with_reducible exact signalbenchlaw04_awake.mono _)
   | (with_reducible exact LeO.refl _)
   | (with_reducible exact LeO.none _)
   | (with_reducible refine LeO.ite ?_ ?_)
   | (with_reducible refine LeO.bind ?_ (fun _ => ?_))
   | exact ih0 _ _ _ _ _ _ _ _ _ _ _ _ _ _ _ _ _ _ _
   | exact ih1 _ _ _ _ _ _ _ _ _ _ _ _ _ _ _ _ _ _ _ _
   | exact check_Right.mono _ _ _ _ _ _
   | exact signalbenchlaw04_awake.mono _
   | exact LeO.none _
   | refine LeO.ite ?_ ?_
   | refine LeO.bind ?_ (fun _ => ?_)
theorem signalbenchlaw04_CheckRight.mono : ∀ a0 a1 a2 a3 a4 a5 k, LeO (signalbenchlaw04_CheckRight.f k a0 a1 a2 a3 a4 a5) (signalbenchlaw04_CheckRight.f (k + 1) a0 a1 a2 a3 a4 a5) := by
 intro a0 a1 a2 a3 a4 a5 k
 obtain ⟨ih0, ih1⟩ := signalbenchlaw04_CheckRight.mono_l k
 unfold signalbenchlaw04_CheckRight.f
 repeat' first
   | (with_reducible exact ih0 _ _ _ _ _ _ _ _ _ _ _ _ _ _ _ _ _ _ _)
   | (with_reducible exact ih1 _ _ _ _ _ _ _ _ _ _ _ _ _ _ _ _ _ _ _ _)
   | (with_reducible exact check_Right.mono _ _ _ _ _ _)
   | (with_reducible exact signalbenchlaw04_awake.mono _)
   | (with_reducible exact LeO.refl _)
   | (with_reducible exact LeO.none _)
   | (with_reducible refine LeO.ite ?_ ?_)
   | (with_reducible refine LeO.bind ?_ (fun _ => ?_))
   | exact ih0 _ _ _ _ _ _ _ _ _ _ _ _ _ _ _ _ _ _ _
   | exact ih1 _ _ _ _ _ _ _ _ _ _ _ _ _ _ _ _ _ _ _ _
   | exact check_Right.mono _ _ _ _ _ _
   | exact signalbenchlaw04_awake.mono _
   | exact LeO.none _
   | refine LeO.ite ?_ ?_
   | refine LeO.bind ?_ (fun _ => ?_)
def signalbenchlaw04_CheckRight.T9 : Bool × List (List Nat × List Nat) := (true, [([], []), ([], []), ([0, 1], [0, 1]), ([2], [2]), ([], []), ([], []), ([4, 5], [4, 5]), ([6], [6]), ([3, 7], [3, 7])])
def signalbenchlaw04_CheckRight.B9 : List Nat := [0, 0, 3, 7, 0, 0, 48, 112, 255]
theorem signalbenchlaw04_CheckRight.tab9 : rtab .any (opsOf Tryd.f9 9) = signalbenchlaw04_CheckRight.T9 := by kernel_rfl
theorem signalbenchlaw04_CheckRight.bits9 : waitsOk signalbenchlaw04_CheckRight.T9.2 signalbenchlaw04_CheckRight.B9 = true := by kernel_rfl
def signalbenchlaw04_CheckRight.T11 : Bool × List (List Nat × List Nat) := (true, [([], []), ([0], [0]), ([], []), ([2, 1], [2]), ([1, 3], [1, 3]), ([4, 3], [4]), ([5], [5]), ([5], [5]), ([6, 7, 5], [5, 6, 7]), ([5, 8], [5, 8]), ([9, 5], [9]), ([10], [10]), ([10], [10]), ([11, 12, 10], [10, 11, 12]), ([10, 13], [10, 13]), ([14, 10], [14]), ([15, 15], [15]), ([15, 16], [15, 16]), ([17, 16, 0, 1, 2, 3, 4, 5, 6, 7, 8, 9, 10, 11, 12, 13, 14, 15, 16, 17], [17])])
def signalbenchlaw04_CheckRight.B11 : List Nat := [0, 1, 0, 7, 15, 31, 63, 63, 255, 511, 1023, 2047, 2047, 8191, 16383, 32767, 65535, 131071, 262143]
theorem signalbenchlaw04_CheckRight.tab11 : rtab .any (opsOf Tryd.f9 11) = signalbenchlaw04_CheckRight.T11 := by kernel_rfl
theorem signalbenchlaw04_CheckRight.bits11 : waitsOk signalbenchlaw04_CheckRight.T11.2 signalbenchlaw04_CheckRight.B11 = true := by kernel_rfl
set_option maxHeartbeats 8000000 in
set_option maxRecDepth 100000 in
theorem signalbenchlaw04_CheckRight.calls (k : Nat) (a0_0 : Int) (a0_1 : Int) (a0_2 : Int) (a0_3 : Int) (a0_4 : Bool) (a1 : ByteArray) (r : Bool) (w : World) (hT_ : TabOk w) (h : signalbenchlaw04_CheckRight.f k a0_0 a0_1 a0_2 a0_3 a0_4 a1 = some r) :
  Calls Tryd.prog 9 #[.agg #[.int .i64 a0_0, .int .i64 a0_1, .int .i64 a0_2, .int .i64 a0_3, .bool a0_4], .string a1] w fun e w' => e = .returned (.bool r) ∧ Below w.heap.size w w' := by
 have hu23 := Tryd.underlying23
 have HB := Aside0.mk (Below.refl w.heap.size w)
 have H : ((check_Named.f a1).bind fun bt144 => ((signalbenchref04_Named.f a1).bind fun bt151 => ((check_Names.f).bind fun t158 => ((signalbenchref04_Names.f).bind fun t161 => (if (t158.length : Int) = (t161.length : Int) then (signalbenchlaw04_CheckRight.j0 k bt144.2.2.2.2.2 bt151.2.2.2.2.2 t158 t161 a0_0 a0_1 a0_2 a0_3 a0_4 bt144.1 bt144.2.1 bt144.2.2.1 bt144.2.2.2.1 bt144.2.2.2.2.1 bt151.1 bt151.2.1 bt151.2.2.1 bt151.2.2.2.1 bt151.2.2.2.2.1) else (some false)))))) = some r := h
 clear h
 replace H := Option.bind_eq_some_iff.mp H
 obtain ⟨⟨t144, t145, t146, t147, t148, t149⟩, A30, H⟩ := H
 replace H : ((signalbenchref04_Named.f a1).bind fun bt151 => ((check_Names.f).bind fun t158 => ((signalbenchref04_Names.f).bind fun t161 => (if (t158.length : Int) = (t161.length : Int) then (signalbenchlaw04_CheckRight.j0 k t149 bt151.2.2.2.2.2 t158 t161 a0_0 a0_1 a0_2 a0_3 a0_4 t144 t145 t146 t147 t148 bt151.1 bt151.2.1 bt151.2.2.1 bt151.2.2.2.1 bt151.2.2.2.2.1) else (some false))))) = some r := H
 have A3 := Aside0.mk A30
 clear A30
 replace H := Option.bind_eq_some_iff.mp H
 obtain ⟨⟨t151, t152, t153, t154, t155, t156⟩, A40, H⟩ := H
 replace H : ((check_Names.f).bind fun t158 => ((signalbenchref04_Names.f).bind fun t161 => (if (t158.length : Int) = (t161.length : Int) then (signalbenchlaw04_CheckRight.j0 k t149 t156 t158 t161 a0_0 a0_1 a0_2 a0_3 a0_4 t144 t145 t146 t147 t148 t151 t152 t153 t154 t155) else (some false)))) = some r := H
 have A4 := Aside0.mk A40
 clear A40
 replace H := Option.bind_eq_some_iff.mp H
 obtain ⟨t158, A50, H⟩ := H
 replace H : ((signalbenchref04_Names.f).bind fun t161 => (if (t158.length : Int) = (t161.length : Int) then (signalbenchlaw04_CheckRight.j0 k t149 t156 t158 t161 a0_0 a0_1 a0_2 a0_3 a0_4 t144 t145 t146 t147 t148 t151 t152 t153 t154 t155) else (some false))) = some r := H
 have A5 := Aside0.mk A50
 clear A50
 replace H := Option.bind_eq_some_iff.mp H
 obtain ⟨t161, A60, H⟩ := H
 replace H : (if (t158.length : Int) = (t161.length : Int) then (signalbenchlaw04_CheckRight.j0 k t149 t156 t158 t161 a0_0 a0_1 a0_2 a0_3 a0_4 t144 t145 t146 t147 t148 t151 t152 t153 t154 t155) else (some false)) = some r := H
 have A6 := Aside0.mk A60
 clear A60
 have HC7 := Aside0.mk H
 clear H
 go_enter Tryd.func9, Tryd.ntmps9
 go_upto_if 28 with (first | ((with_reducible refine gate_dst (N := 2) rfl ?_); refine box_event ?hg (N := 2) ?hd (cs := #[.int .i64 a0_0, .int .i64 a0_1, .int .i64 a0_2, .int .i64 a0_3, .bool a0_4]) (t := 23) ?hr ?_; (case hd => rfl); (case hg => rfl); (case hr => first | (go_simp; done) | (go_simp; rfl)); intro gb143 hg w8 hbox hb; have n0_ := Aside0.mk (below_step (hbw HB.out) hb); have n1_ := Aside0.mk (hbox); have n2_ := Aside0.mk ((by rw [hg]; exact (below_size (hbw HB.out)) : w.heap.size ≤ gb143)); have n3_ := Aside0.mk ((by rw [hg]; exact (below_size (hbw HB.out)) : w.heap.size ≤ gb143)); clear HB; have HB := n0_; have BK143 := n1_; have GW143 := n2_; have GE143 := n3_; clear n0_ n1_ n2_ n3_; clear hb hbox hg) | ((with_reducible refine gate_callee (f := 27) rfl ?_); refine goesL_ (some 14) rfl rfl Tryd.func27 (by kernel_rfl) rfl #[.string a1] rfl (by (try simp only [List.map_toArray, List.map_cons, List.map_nil]); first | done | rfl | (simp only [List.length_drop, List.length_take]; rfl)) ?_; (with_reducible refine (check_Named.calls a1 t144 t145 t146 t147 t148 t149 _ ?side1 A3.out).mono ?_); (case side1 => refine TabOk.below hT_ ?_; repeat (first | (with_reducible first | exact HB.out | apply below_alloc | apply pw_below_drewN | apply below_drew1 | refine below_set ?_ GE143.out) | exact HB.out)); rintro e w9 ⟨rfl, hb⟩; refine ⟨_, rfl, ?_⟩; have n0_ := Aside0.mk (blkb BK143.out hb); have n1_ := Aside0.mk (below_step (hbw HB.out) hb); clear BK143; clear HB; have BK143 := n0_; have HB := n1_; clear n0_ n1_; (try clear hb); (try clear hb2); (try clear hk); (try clear hi)) | ((with_reducible refine gate_dst (N := 5) rfl ?_); refine box_event ?hg (N := 5) ?hd (cs := #[.int .i64 0, .int .i64 0, .int .i64 0, .int .i64 0, .bool false]) (t := 23) ?hr ?_; (case hd => rfl); (case hg => rfl); (case hr => first | (go_simp; done) | (go_simp; rfl)); intro gb150 hg w10 hbox hb; have n0_ := Aside0.mk (blkb BK143.out hb); have n1_ := Aside0.mk (below_step (hbw HB.out) hb); have n2_ := Aside0.mk (hbox); have n3_ := Aside0.mk ((by rw [hg]; exact (below_size (hbw HB.out)) : w.heap.size ≤ gb150)); have n4_ := Aside0.mk ((by rw [hg]; exact (below_size (hbw HB.out)) : w.heap.size ≤ gb150)); have n5_ := Aside0.mk ((by rw [hg]; exact Nat.ne_of_lt (blkl BK143.out) : gb143 ≠ gb150)); have n6_ := Aside0.mk ((by rw [hg]; exact Nat.ne_of_gt (blkl BK143.out) : gb150 ≠ gb143)); clear BK143; clear HB; have BK143 := n0_; have HB := n1_; have BK150 := n2_; have GW150 := n3_; have GE150 := n4_; have NB143_150 := n5_; have NB150_143 := n6_; clear n0_ n1_ n2_ n3_ n4_ n5_ n6_; clear hb hbox hg; have hnb11 := NB150_143.out; have hnc11 := NB143_150.out; have hcz12_0 : w10.cell? ⟨gb150, 0, none⟩ = some (.int .i64 0) := (blk_cell BK150.out 0).trans rfl; have hcz12_1 : w10.cell? ⟨gb150, 1, none⟩ = some (.int .i64 0) := (blk_cell BK150.out 1).trans rfl; have hcz12_2 : w10.cell? ⟨gb150, 2, none⟩ = some (.int .i64 0) := (blk_cell BK150.out 2).trans rfl; have hcz12_3 : w10.cell? ⟨gb150, 3, none⟩ = some (.int .i64 0) := (blk_cell BK150.out 3).trans rfl; have hcz12_4 : w10.cell? ⟨gb150, 4, none⟩ = some (.bool false) := (blk_cell BK150.out 4).trans rfl; have hfz12_0 := blk_frozen BK150.out 0; have hfz12_1 := blk_frozen BK150.out 1; have hfz12_2 := blk_frozen BK150.out 2; have hfz12_3 := blk_frozen BK150.out 3; have hfz12_4 := blk_frozen BK150.out 4) | ((with_reducible refine gate_callee (f := 28) rfl ?_); refine goesL_ (some 19) rfl rfl Tryd.func28 (by kernel_rfl) rfl #[.string a1] rfl (by (try simp only [List.map_toArray, List.map_cons, List.map_nil]); first | done | rfl | (simp only [List.length_drop, List.length_take]; rfl)) ?_; (with_reducible refine (signalbenchref04_Named.calls a1 t151 t152 t153 t154 t155 t156 _ A4.out).mono ?_); rintro e w13 ⟨rfl, hb⟩; refine ⟨_, rfl, ?_⟩; have n0_ := Aside0.mk (blk_below (g := gb143) (o := .cells #[.int .i64 a0_0, .int .i64 a0_1, .int .i64 a0_2, .int .i64 a0_3, .bool a0_4] 23 (0, 0)) (by (with_reducible repeat (first | refine blk_drewN ?_ _ | refine blk_drew ?_ | refine blk_alloc ?_ _)); refine blk_far ?_ NB143_150.out _; (with_reducible repeat (first | refine blk_drewN ?_ _ | refine blk_drew ?_ | refine blk_alloc ?_ _)); refine blk_far ?_ NB143_150.out _; (with_reducible repeat (first | refine blk_drewN ?_ _ | refine blk_drew ?_ | refine blk_alloc ?_ _)); refine blk_far ?_ NB143_150.out _; (with_reducible repeat (first | refine blk_drewN ?_ _ | refine blk_drew ?_ | refine blk_alloc ?_ _)); refine blk_far ?_ NB143_150.out _; (with_reducible repeat (first | refine blk_drewN ?_ _ | refine blk_drew ?_ | refine blk_alloc ?_ _)); refine blk_far ?_ NB143_150.out _; (with_reducible repeat (first | refine blk_drewN ?_ _ | refine blk_drew ?_ | refine blk_alloc ?_ _)); exact BK143.out) hb); have n1_ := Aside0.mk (blk_below (g := gb150) (o := .cells #[.int .i64 t144, .int .i64 t145, .int .i64 t146, .int .i64 t147, .bool t148] 23 (0, 0)) (by (with_reducible repeat (first | refine blk_drewN ?_ _ | refine blk_drew ?_ | refine blk_alloc ?_ _)); refine blk_put (cs := #[.int .i64 t144, .int .i64 t145, .int .i64 t146, .int .i64 t147, .bool false]) ?_ 4 _ rfl; (with_reducible repeat (first | refine blk_drewN ?_ _ | refine blk_drew ?_ | refine blk_alloc ?_ _)); refine blk_put (cs := #[.int .i64 t144, .int .i64 t145, .int .i64 t146, .int .i64 0, .bool false]) ?_ 3 _ rfl; (with_reducible repeat (first | refine blk_drewN ?_ _ | refine blk_drew ?_ | refine blk_alloc ?_ _)); refine blk_put (cs := #[.int .i64 t144, .int .i64 t145, .int .i64 0, .int .i64 0, .bool false]) ?_ 2 _ rfl; (with_reducible repeat (first | refine blk_drewN ?_ _ | refine blk_drew ?_ | refine blk_alloc ?_ _)); refine blk_put (cs := #[.int .i64 t144, .int .i64 0, .int .i64 0, .int .i64 0, .bool false]) ?_ 1 _ rfl; (with_reducible repeat (first | refine blk_drewN ?_ _ | refine blk_drew ?_ | refine blk_alloc ?_ _)); refine blk_put (cs := #[.int .i64 0, .int .i64 0, .int .i64 0, .int .i64 0, .bool false]) ?_ 0 _ rfl; (with_reducible repeat (first | refine blk_drewN ?_ _ | refine blk_drew ?_ | refine blk_alloc ?_ _)); exact BK150.out) hb); have n2_ := Aside0.mk (below_step (hbw HB.out) hb); clear BK143; clear BK150; clear HB; have BK143 := n0_; have BK150 := n1_; have HB := n2_; clear n0_ n1_ n2_; (try clear hb); (try clear hb2); (try clear hk); (try clear hi)) | ((with_reducible refine gate_dst (N := 7) rfl ?_); refine box_event ?hg (N := 7) ?hd (cs := #[.int .i64 0, .int .i64 0, .int .i64 0, .int .i64 0, .bool false]) (t := 23) ?hr ?_; (case hd => rfl); (case hg => rfl); (case hr => first | (go_simp; done) | (go_simp; rfl)); intro gb157 hg w14 hbox hb; have n0_ := Aside0.mk (blkb BK143.out hb); have n1_ := Aside0.mk (blkb BK150.out hb); have n2_ := Aside0.mk (below_step (hbw HB.out) hb); have n3_ := Aside0.mk (hbox); have n4_ := Aside0.mk ((by rw [hg]; exact (below_size (hbw HB.out)) : w.heap.size ≤ gb157)); have n5_ := Aside0.mk ((by rw [hg]; exact (below_size (hbw HB.out)) : w.heap.size ≤ gb157)); have n6_ := Aside0.mk ((by rw [hg]; exact Nat.ne_of_lt (blkl BK143.out) : gb143 ≠ gb157)); have n7_ := Aside0.mk ((by rw [hg]; exact Nat.ne_of_gt (blkl BK143.out) : gb157 ≠ gb143)); have n8_ := Aside0.mk ((by rw [hg]; exact Nat.ne_of_lt (blkl BK150.out) : gb150 ≠ gb157)); have n9_ := Aside0.mk ((by rw [hg]; exact Nat.ne_of_gt (blkl BK150.out) : gb157 ≠ gb150)); clear BK143; clear BK150; clear HB; have BK143 := n0_; have BK150 := n1_; have HB := n2_; have BK157 := n3_; have GW157 := n4_; have GE157 := n5_; have NB143_157 := n6_; have NB157_143 := n7_; have NB150_157 := n8_; have NB157_150 := n9_; clear n0_ n1_ n2_ n3_ n4_ n5_ n6_ n7_ n8_ n9_; clear hb hbox hg; have hnb15 := NB157_143.out; have hnc15 := NB143_157.out; have hnb16 := NB157_150.out; have hnc16 := NB150_157.out; have hcz17_0 : w14.cell? ⟨gb157, 0, none⟩ = some (.int .i64 0) := (blk_cell BK157.out 0).trans rfl; have hcz17_1 : w14.cell? ⟨gb157, 1, none⟩ = some (.int .i64 0) := (blk_cell BK157.out 1).trans rfl; have hcz17_2 : w14.cell? ⟨gb157, 2, none⟩ = some (.int .i64 0) := (blk_cell BK157.out 2).trans rfl; have hcz17_3 : w14.cell? ⟨gb157, 3, none⟩ = some (.int .i64 0) := (blk_cell BK157.out 3).trans rfl; have hcz17_4 : w14.cell? ⟨gb157, 4, none⟩ = some (.bool false) := (blk_cell BK157.out 4).trans rfl; have hfz17_0 := blk_frozen BK157.out 0; have hfz17_1 := blk_frozen BK157.out 1; have hfz17_2 := blk_frozen BK157.out 2; have hfz17_3 := blk_frozen BK157.out 3; have hfz17_4 := blk_frozen BK157.out 4) | ((with_reducible refine gate_callee (f := 29) rfl ?_); refine goesL_ (some 22) rfl rfl Tryd.func29 (by kernel_rfl) rfl #[] rfl (by (try simp only [List.map_toArray, List.map_cons, List.map_nil]); first | done | rfl | (simp only [List.length_drop, List.length_take]; rfl)) ?_; (with_reducible refine (check_Names.calls  t158 _ ?side1 A5.out).mono ?_); (case side1 => refine TabOk.below hT_ ?_; repeat (first | (with_reducible first | exact HB.out | apply below_alloc | apply pw_below_drewN | apply below_drew1 | refine below_set ?_ GE143.out | refine below_set ?_ GE150.out | refine below_set ?_ GE157.out) | exact HB.out)); rintro e w18 ⟨v159, rfl, ho0, hb⟩; refine ⟨_, rfl, ?_⟩; have n0_ := Aside0.mk (Kd.R_lower ho0 (below_size (hbw HB.out))); have n1_ := Aside0.mk (blk_below (g := gb143) (o := .cells #[.int .i64 a0_0, .int .i64 a0_1, .int .i64 a0_2, .int .i64 a0_3, .bool a0_4] 23 (0, 0)) (by (with_reducible repeat (first | refine blk_drewN ?_ _ | refine blk_drew ?_ | refine blk_alloc ?_ _)); refine blk_far ?_ NB143_157.out _; (with_reducible repeat (first | refine blk_drewN ?_ _ | refine blk_drew ?_ | refine blk_alloc ?_ _)); refine blk_far ?_ NB143_157.out _; (with_reducible repeat (first | refine blk_drewN ?_ _ | refine blk_drew ?_ | refine blk_alloc ?_ _)); refine blk_far ?_ NB143_157.out _; (with_reducible repeat (first | refine blk_drewN ?_ _ | refine blk_drew ?_ | refine blk_alloc ?_ _)); refine blk_far ?_ NB143_157.out _; (with_reducible repeat (first | refine blk_drewN ?_ _ | refine blk_drew ?_ | refine blk_alloc ?_ _)); refine blk_far ?_ NB143_157.out _; (with_reducible repeat (first | refine blk_drewN ?_ _ | refine blk_drew ?_ | refine blk_alloc ?_ _)); exact BK143.out) hb); have n2_ := Aside0.mk (blk_below (g := gb150) (o := .cells #[.int .i64 t144, .int .i64 t145, .int .i64 t146, .int .i64 t147, .bool t148] 23 (0, 0)) (by (with_reducible repeat (first | refine blk_drewN ?_ _ | refine blk_drew ?_ | refine blk_alloc ?_ _)); refine blk_far ?_ NB150_157.out _; (with_reducible repeat (first | refine blk_drewN ?_ _ | refine blk_drew ?_ | refine blk_alloc ?_ _)); refine blk_far ?_ NB150_157.out _; (with_reducible repeat (first | refine blk_drewN ?_ _ | refine blk_drew ?_ | refine blk_alloc ?_ _)); refine blk_far ?_ NB150_157.out _; (with_reducible repeat (first | refine blk_drewN ?_ _ | refine blk_drew ?_ | refine blk_alloc ?_ _)); refine blk_far ?_ NB150_157.out _; (with_reducible repeat (first | refine blk_drewN ?_ _ | refine blk_drew ?_ | refine blk_alloc ?_ _)); refine blk_far ?_ NB150_157.out _; (with_reducible repeat (first | refine blk_drewN ?_ _ | refine blk_drew ?_ | refine blk_alloc ?_ _)); exact BK150.out) hb); have n3_ := Aside0.mk (blk_below (g := gb157) (o := .cells #[.int .i64 t151, .int .i64 t152, .int .i64 t153, .int .i64 t154, .bool t155] 23 (0, 0)) (by (with_reducible repeat (first | refine blk_drewN ?_ _ | refine blk_drew ?_ | refine blk_alloc ?_ _)); refine blk_put (cs := #[.int .i64 t151, .int .i64 t152, .int .i64 t153, .int .i64 t154, .bool false]) ?_ 4 _ rfl; (with_reducible repeat (first | refine blk_drewN ?_ _ | refine blk_drew ?_ | refine blk_alloc ?_ _)); refine blk_put (cs := #[.int .i64 t151, .int .i64 t152, .int .i64 t153, .int .i64 0, .bool false]) ?_ 3 _ rfl; (with_reducible repeat (first | refine blk_drewN ?_ _ | refine blk_drew ?_ | refine blk_alloc ?_ _)); refine blk_put (cs := #[.int .i64 t151, .int .i64 t152, .int .i64 0, .int .i64 0, .bool false]) ?_ 2 _ rfl; (with_reducible repeat (first | refine blk_drewN ?_ _ | refine blk_drew ?_ | refine blk_alloc ?_ _)); refine blk_put (cs := #[.int .i64 t151, .int .i64 0, .int .i64 0, .int .i64 0, .bool false]) ?_ 1 _ rfl; (with_reducible repeat (first | refine blk_drewN ?_ _ | refine blk_drew ?_ | refine blk_alloc ?_ _)); refine blk_put (cs := #[.int .i64 0, .int .i64 0, .int .i64 0, .int .i64 0, .bool false]) ?_ 0 _ rfl; (with_reducible repeat (first | refine blk_drewN ?_ _ | refine blk_drew ?_ | refine blk_alloc ?_ _)); exact BK157.out) hb); have n4_ := Aside0.mk (below_step (hbw HB.out) hb); clear BK143; clear BK150; clear BK157; clear HB; have HO160 := n0_; have BK143 := n1_; have BK150 := n2_; have BK157 := n3_; have HB := n4_; clear n0_ n1_ n2_ n3_ n4_; (try clear hb); (try clear hb2); (try clear hk); (try clear hi); (try clear ho0)) | ((with_reducible refine gate_callee (f := 30) rfl ?_); refine goesL_ (some 23) rfl rfl Tryd.func30 (by kernel_rfl) rfl #[] rfl (by (try simp only [List.map_toArray, List.map_cons, List.map_nil]); first | done | rfl | (simp only [List.length_drop, List.length_take]; rfl)) ?_; (with_reducible refine (signalbenchref04_Names.calls  t161 _ A6.out).mono ?_); rintro e w19 ⟨v162, rfl, ho0, hb⟩; refine ⟨_, rfl, ?_⟩; have n0_ := Aside0.mk (Kd.R_elder' (rkw HO160.out) (Kd.R_base ho0) hb); have n1_ := Aside0.mk (Kd.R_lower (Kd.R_new' ho0 (Kd.R_lt (rkw HO160.out))) (below_size (hbw HB.out))); have n2_ := Aside0.mk (blkb BK143.out hb); have n3_ := Aside0.mk (blkb BK150.out hb); have n4_ := Aside0.mk (blkb BK157.out hb); have n5_ := Aside0.mk (below_step (hbw HB.out) hb); clear HO160; clear BK143; clear BK150; clear BK157; clear HB; have HO160 := n0_; have HO163 := n1_; have BK143 := n2_; have BK150 := n3_; have BK157 := n4_; have HB := n5_; clear n0_ n1_ n2_ n3_ n4_ n5_; (try clear hb); (try clear hb2); (try clear hk); (try clear hi); (try clear ho0); obtain ⟨Ao20, co20, eo20⟩ := Kd.R_slice HO160.out; subst eo20; obtain ⟨Ao21, co21, eo21⟩ := Kd.R_slice HO163.out; subst eo21))
 (try simp only [Act.put, List.setIfInBounds_toArray, List.set_cons_zero, List.set_cons_succ])
 go_cut [] (fun wc => ∃ (kq : Nat), Aside0 (signalbenchlaw04_CheckRight.j0 kq t149 t156 t158 t161 a0_0 a0_1 a0_2 a0_3 a0_4 t144 t145 t146 t147 t148 t151 t152 t153 t154 t155 = some r) ∧ Aside0 (kq ≤ k) ∧ Aside0 (Kd.R Kd.string 9 wc w.heap.size (fun k_ => some k_ ≠ ((.slice Ao21 t161.length co21) : Value).ownBlock) (.slice Ao20 t158.length co20) t158) ∧ Aside0 (Kd.R Kd.string 9 wc w.heap.size (fun k_ => some k_ ≠ ((.slice Ao20 t158.length co20) : Value).ownBlock) (.slice Ao21 t161.length co21) t161) ∧ Aside0 (wc.heap[gb143]? = some (.cells #[.int .i64 a0_0, .int .i64 a0_1, .int .i64 a0_2, .int .i64 a0_3, .bool a0_4] 23 (0, 0))) ∧ Aside0 (wc.heap[gb150]? = some (.cells #[.int .i64 t144, .int .i64 t145, .int .i64 t146, .int .i64 t147, .bool t148] 23 (0, 0))) ∧ Aside0 (wc.heap[gb157]? = some (.cells #[.int .i64 t151, .int .i64 t152, .int .i64 t153, .int .i64 t154, .bool t155] 23 (0, 0))) ∧ Aside0 (Below w.heap.size w wc))
 case first =>
  have H := HC7.out
  clear HC7
  by_cases c22 : (t158.length : Int) = (t161.length : Int)
  ·rw [if_pos c22] at H
   have c22b0 : ((t158.length : Int) == (t161.length : Int)) = true := beq_iff_eq.mpr c22
   have c22b1 : ((t158.length : Int) != (t161.length : Int)) = false := bne_eq_false_iff_eq.mpr c22
   have c22b2 : (t158.length == t161.length) = true := by first | simpa using c22 | (simp at c22 ⊢; omega)
   clear c22
   (first | rw [c22b0] | (simp only [i64_w, i32_w]; rw [c22b0]) | skip)
   have H' := Aside0.mk H
   clear H
   go_wp2
   go_meet
   case rel => exact ⟨_, H', ⟨by first | omega | exact Nat.le_refl _⟩, ⟨by (with_reducible repeat (first | apply Kd.R_alloc | apply Kd.R_drewN | apply Kd.R_drew)); exact Kd.R_mono HO160.out (fun _ hk => hk.2)⟩, ⟨by (with_reducible repeat (first | apply Kd.R_alloc | apply Kd.R_drewN | apply Kd.R_drew)); exact Kd.R_mono HO163.out (fun _ hk => hk.2)⟩, ⟨by (with_reducible repeat (first | refine blk_drewN ?_ _ | refine blk_drew ?_ | refine blk_alloc ?_ _)); exact BK143.out⟩, ⟨by (with_reducible repeat (first | refine blk_drewN ?_ _ | refine blk_drew ?_ | refine blk_alloc ?_ _)); exact BK150.out⟩, ⟨by (with_reducible repeat (first | refine blk_drewN ?_ _ | refine blk_drew ?_ | refine blk_alloc ?_ _)); exact BK157.out⟩, ⟨by repeat (first | (with_reducible first | exact HB.out | apply below_alloc | apply pw_below_drewN | apply below_drew1 | refine below_set ?_ GE143.out | refine below_set ?_ GE150.out | refine below_set ?_ GE157.out) | exact HB.out)⟩⟩
  ·rw [if_neg c22] at H
   have c22b0 : ((t158.length : Int) == (t161.length : Int)) = false := beq_eq_false_iff_ne.mpr c22
   have c22b1 : ((t158.length : Int) != (t161.length : Int)) = true := bne_iff_ne.mpr c22
   have c22b2 : (t158.length == t161.length) = false := by first | simpa using c22 | (simp at c22 ⊢; omega)
   (first | rw [c22b0] | (simp only [i64_w, i32_w]; rw [c22b0]) | skip)
   obtain rfl := Option.some.inj H
   go_wp2
   go_ret
   exact ⟨by first | rfl | (simp [errW_none, errW_some] <;> rfl) | (simp [*, errW_none, errW_some] <;> rfl), by repeat (first | (with_reducible first | exact HB.out | apply below_alloc | apply pw_below_drewN | apply below_drew1 | refine below_set ?_ GE143.out | refine below_set ?_ GE150.out | refine below_set ?_ GE157.out) | exact HB.out)⟩
 case rest =>
  clear HC7
  try clear c1
  try clear c2
  try clear p2
  try clear c3
  try clear c9
  try clear c11
  try clear c15
  try clear c16
  try clear c22
  try clear c22b0
  try clear c22b1
  try clear c22b2
  try clear hcz12_0
  try clear hcz12_1
  try clear hcz12_2
  try clear hcz12_3
  try clear hcz12_4
  try clear hcz17_0
  try clear hcz17_1
  try clear hcz17_2
  try clear hcz17_3
  try clear hcz17_4
  try clear hfz12_0
  try clear hfz12_1
  try clear hfz12_2
  try clear hfz12_3
  try clear hfz12_4
  try clear hfz17_0
  try clear hfz17_1
  try clear hfz17_2
  try clear hfz17_3
  try clear hfz17_4
  obtain ⟨kq, HA, HJ6, HO_9, HO_10, BK143, BK150, BK157, HB⟩ := hcut
  cases kq with
  | zero => exact absurd HA.out (by simp [signalbenchlaw04_CheckRight.j0])
  | succ kj6 =>
   have H := HA.out
   clear HA
   simp only [signalbenchlaw04_CheckRight.j0] at H
   have H' := Aside0.mk H
   clear H
   go_wp2
   go_loopg [11] kj6 (fun kq v11 w' => ∃ (x11_2 : Int), v11 = .int .i64 x11_2 ∧ Aside0 (signalbenchlaw04_CheckRight.l0 kq t149 t156 t158 t161 x11_2 a0_0 a0_1 a0_2 a0_3 a0_4 t144 t145 t146 t147 t148 t151 t152 t153 t154 t155 = some r) ∧ Aside0 (kq ≤ kj6) ∧ Aside0 (Kd.R Kd.string 9 w' w.heap.size (fun k_ => some k_ ≠ ((.slice Ao21 t161.length co21) : Value).ownBlock) (.slice Ao20 t158.length co20) t158) ∧ Aside0 (Kd.R Kd.string 9 w' w.heap.size (fun k_ => some k_ ≠ ((.slice Ao20 t158.length co20) : Value).ownBlock) (.slice Ao21 t161.length co21) t161) ∧ Aside0 (w'.heap[gb143]? = some (.cells #[.int .i64 a0_0, .int .i64 a0_1, .int .i64 a0_2, .int .i64 a0_3, .bool a0_4] 23 (0, 0))) ∧ Aside0 (w'.heap[gb150]? = some (.cells #[.int .i64 t144, .int .i64 t145, .int .i64 t146, .int .i64 t147, .bool t148] 23 (0, 0))) ∧ Aside0 (w'.heap[gb157]? = some (.cells #[.int .i64 t151, .int .i64 t152, .int .i64 t153, .int .i64 t154, .bool t155] 23 (0, 0))) ∧ Aside0 (Below w.heap.size w w'))
   case atStart => exact ⟨(0), (by first | rfl | (simp; done) | (simp [*]; done)), H', ⟨Nat.le_refl _⟩, ⟨by (with_reducible repeat (first | apply Kd.R_alloc | apply Kd.R_drewN | apply Kd.R_drew)); exact HO_9.out⟩, ⟨by (with_reducible repeat (first | apply Kd.R_alloc | apply Kd.R_drewN | apply Kd.R_drew)); exact HO_10.out⟩, ⟨by (with_reducible repeat (first | refine blk_drewN ?_ _ | refine blk_drew ?_ | refine blk_alloc ?_ _)); exact BK143.out⟩, ⟨by (with_reducible repeat (first | refine blk_drewN ?_ _ | refine blk_drew ?_ | refine blk_alloc ?_ _)); exact BK150.out⟩, ⟨by (with_reducible repeat (first | refine blk_drewN ?_ _ | refine blk_drew ?_ | refine blk_alloc ?_ _)); exact BK157.out⟩, ⟨by repeat (first | (with_reducible first | exact HB.out | apply below_alloc | apply pw_below_drewN | apply below_drew1 | refine below_set ?_ GE143.out | refine below_set ?_ GE150.out | refine below_set ?_ GE157.out) | exact HB.out)⟩⟩
   case round =>
    clear H'
    try clear c1
    try clear c2
    try clear p2
    try clear c3
    try clear c9
    try clear c11
    try clear c15
    try clear c16
    try clear c22
    try clear c22b0
    try clear c22b1
    try clear c22b2
    try clear hcz12_0
    try clear hcz12_1
    try clear hcz12_2
    try clear hcz12_3
    try clear hcz12_4
    try clear hcz17_0
    try clear hcz17_1
    try clear hcz17_2
    try clear hcz17_3
    try clear hcz17_4
    try clear hfz12_0
    try clear hfz12_1
    try clear hfz12_2
    try clear hfz12_3
    try clear hfz12_4
    try clear hfz17_0
    try clear hfz17_1
    try clear hfz17_2
    try clear hfz17_3
    try clear hfz17_4
    try clear p2
    obtain ⟨x11_2, rfl, HA, HK2, HO_9, HO_10, BK143, BK150, BK157, HB⟩ := hrel
    cases gk with
    | zero => exact absurd HA.out (by simp [signalbenchlaw04_CheckRight.l0])
    | succ k2 =>
     have H := HA.out
     clear HA
     simp only [signalbenchlaw04_CheckRight.l0] at H
     by_cases c23 : x11_2 < (t161.length : Int)
     ·rw [if_pos c23] at H
      have c23b0 : decide (x11_2 < (t161.length : Int)) = true := decide_eq_true c23
      clear c23
      by_cases c24 : 0 ≤ x11_2
      ·rw [if_pos c24] at H
       have c24b0 : decide (0 ≤ x11_2) = true := decide_eq_true c24
       clear c24
       by_cases c25 : x11_2 < (t158.length : Int)
       ·rw [if_pos c25] at H
        have c25b0 : decide (x11_2 < (t158.length : Int)) = true := decide_eq_true c25
        clear c25
        by_cases c26 : (rdOf ByteArray.empty t158 x11_2).toList = (rdOf ByteArray.empty t161 x11_2).toList
        ·rw [if_pos c26] at H
         have c26b0 : ((rdOf ByteArray.empty t158 x11_2).toList == (rdOf ByteArray.empty t161 x11_2).toList) = true := beq_iff_eq.mpr c26
         have c26b1 : ((rdOf ByteArray.empty t158 x11_2).toList != (rdOf ByteArray.empty t161 x11_2).toList) = false := bne_eq_false_iff_eq.mpr c26
         clear c26
         have H' := Aside0.mk H
         clear H
         try go_wp2
         have n0_ := Aside0.mk (Kd.R_drew HO_9.out)
         have n1_ := Aside0.mk (Kd.R_drew HO_10.out)
         have n2_ := Aside0.mk (blk_drew BK143.out)
         have n3_ := Aside0.mk (blk_drew BK150.out)
         have n4_ := Aside0.mk (blk_drew BK157.out)
         have n5_ := Aside0.mk (below_drew1 HB.out)
         clear HO_9
         clear HO_10
         clear BK143
         clear BK150
         clear BK157
         clear HB
         have HO_9 := n0_
         have HO_10 := n1_
         have BK143 := n2_
         have BK150 := n3_
         have BK157 := n4_
         have HB := n5_
         clear n0_ n1_ n2_ n3_ n4_ n5_
         have p164 : 0 ≤ (x11_2 : Int) := of_decide_eq_true (by first | (with_reducible assumption) | assumption)
         have q164 : x11_2 < (t158.length : Int) := of_decide_eq_true (by first | (with_reducible assumption) | assumption)
         obtain ⟨ad164, e164, hx164_0⟩ := Kd.at_string (Kd.R_reads' HO_9.out).2.2 x11_2 p164 q164
         cases e164
         replace p164 := eq_true p164
         replace q164 := eq_true q164
         have p165 : 0 ≤ (x11_2 : Int) := of_decide_eq_true (by first | (with_reducible assumption) | assumption)
         have q165 : x11_2 < (t161.length : Int) := of_decide_eq_true (by first | (with_reducible assumption) | assumption)
         obtain ⟨ad165, e165, hx165_0⟩ := Kd.at_string (Kd.R_reads' HO_10.out).2.2 x11_2 p165 q165
         cases e165
         replace p165 := eq_true p165
         replace q165 := eq_true q165
         refine start_ (n := 9) (S := fun w' => w'.cell? (ad164.add (x11_2).toNat) = some (.string (rdOf ByteArray.empty t158 x11_2)) ∧ w'.cell? (ad165.add (x11_2).toNat) = some (.string (rdOf ByteArray.empty t161 x11_2))) (ds := []) #[false, false, false, false, false, false, false, false, false] (by kernel_rfl) rfl rfl ⟨hx164_0, hx165_0⟩ (fun hHeld => ?_); refine with_tabW signalbenchlaw04_CheckRight.tab9 signalbenchlaw04_CheckRight.bits9 (fun HT_ HW_ => ?_)
         generalize wr.drew = w27 at HO_9 HO_10 BK143 BK150 BK157 HB hx164_0 hx165_0 hHeld ⊢
         refine pstep 0 (some 35) #[true, false, false, false, false, false, false, false, false] HT_.out ?_
         refine pstep 1 (some 36) #[true, true, false, false, false, false, false, false, false] HT_.out ?_
         refine pstep 2 (some 37) #[true, true, true, false, false, false, false, false, false] HT_.out ?_
         refine pstep 4 (some 39) #[true, true, true, false, true, false, false, false, false] HT_.out ?_
         refine pstep 5 (some 40) #[true, true, true, false, true, true, false, false, false] HT_.out ?_
         refine pstep 6 (some 41) #[true, true, true, false, true, true, true, false, false] HT_.out ?_
         refine take_ (i := 3) (N := some 38) (v := ?_) (a' := ?_) #[true, true, true, true, true, true, true, false, false] rfl rfl (take_ofW HT_.out HW_.out (by kernel_rfl)) (fun _ _ _ h => h) (Or.inl ⟨by rfl, ?_⟩) hHeld ?_ ?_
         rotate_left
         ·rintro w' ⟨s0, s1⟩
          go_simp
          with_reducible rfl
         rotate_left
         ·simp only [Act.put, nrm]
          rfl
         refine take_ (i := 7) (N := some 42) (v := ?_) (a' := ?_) #[true, true, true, true, true, true, true, true, false] rfl rfl (take_ofW HT_.out HW_.out (by kernel_rfl)) (fun _ _ _ h => h) (Or.inl ⟨by rfl, ?_⟩) hHeld ?_ ?_
         rotate_left
         ·rintro w' ⟨s0, s1⟩
          go_simp
          with_reducible rfl
         rotate_left
         ·simp only [Act.put, nrm]
          rfl
         refine pstep 8 (some 43) #[true, true, true, true, true, true, true, true, true] HT_.out ?_
         refine done_ (done_of HT_.out (by kernel_rfl)) ?_
         try go_wp2
         go_roundg k2
         case measure => have := HJ6.out; have := HK2.out; omega
         case rel => exact ⟨(wrap64 (x11_2 + 1)), (by first | rfl | (simp; done) | (simp [*]; done)), H', ⟨by have := HJ6.out; have := HK2.out; omega⟩, ⟨by (with_reducible repeat (first | apply Kd.R_alloc | apply Kd.R_drewN | apply Kd.R_drew)); exact HO_9.out⟩, ⟨by (with_reducible repeat (first | apply Kd.R_alloc | apply Kd.R_drewN | apply Kd.R_drew)); exact HO_10.out⟩, ⟨by (with_reducible repeat (first | refine blk_drewN ?_ _ | refine blk_drew ?_ | refine blk_alloc ?_ _)); exact BK143.out⟩, ⟨by (with_reducible repeat (first | refine blk_drewN ?_ _ | refine blk_drew ?_ | refine blk_alloc ?_ _)); exact BK150.out⟩, ⟨by (with_reducible repeat (first | refine blk_drewN ?_ _ | refine blk_drew ?_ | refine blk_alloc ?_ _)); exact BK157.out⟩, ⟨by repeat (first | (with_reducible first | exact HB.out | apply below_alloc | apply pw_below_drewN | apply below_drew1 | refine below_set ?_ GE143.out | refine below_set ?_ GE150.out | refine below_set ?_ GE157.out) | exact HB.out)⟩⟩
        ·rw [if_neg c26] at H
         have c26b0 : ((rdOf ByteArray.empty t158 x11_2).toList == (rdOf ByteArray.empty t161 x11_2).toList) = false := beq_eq_false_iff_ne.mpr c26
         have c26b1 : ((rdOf ByteArray.empty t158 x11_2).toList != (rdOf ByteArray.empty t161 x11_2).toList) = true := bne_iff_ne.mpr c26
         obtain rfl := Option.some.inj H
         try go_wp2
         have n0_ := Aside0.mk (Kd.R_drew HO_9.out)
         have n1_ := Aside0.mk (Kd.R_drew HO_10.out)
         have n2_ := Aside0.mk (blk_drew BK143.out)
         have n3_ := Aside0.mk (blk_drew BK150.out)
         have n4_ := Aside0.mk (blk_drew BK157.out)
         have n5_ := Aside0.mk (below_drew1 HB.out)
         clear HO_9
         clear HO_10
         clear BK143
         clear BK150
         clear BK157
         clear HB
         have HO_9 := n0_
         have HO_10 := n1_
         have BK143 := n2_
         have BK150 := n3_
         have BK157 := n4_
         have HB := n5_
         clear n0_ n1_ n2_ n3_ n4_ n5_
         have p164 : 0 ≤ (x11_2 : Int) := of_decide_eq_true (by first | (with_reducible assumption) | assumption)
         have q164 : x11_2 < (t158.length : Int) := of_decide_eq_true (by first | (with_reducible assumption) | assumption)
         obtain ⟨ad164, e164, hx164_0⟩ := Kd.at_string (Kd.R_reads' HO_9.out).2.2 x11_2 p164 q164
         cases e164
         replace p164 := eq_true p164
         replace q164 := eq_true q164
         have p165 : 0 ≤ (x11_2 : Int) := of_decide_eq_true (by first | (with_reducible assumption) | assumption)
         have q165 : x11_2 < (t161.length : Int) := of_decide_eq_true (by first | (with_reducible assumption) | assumption)
         obtain ⟨ad165, e165, hx165_0⟩ := Kd.at_string (Kd.R_reads' HO_10.out).2.2 x11_2 p165 q165
         cases e165
         replace p165 := eq_true p165
         replace q165 := eq_true q165
         refine start_ (n := 9) (S := fun w' => w'.cell? (ad164.add (x11_2).toNat) = some (.string (rdOf ByteArray.empty t158 x11_2)) ∧ w'.cell? (ad165.add (x11_2).toNat) = some (.string (rdOf ByteArray.empty t161 x11_2))) (ds := []) #[false, false, false, false, false, false, false, false, false] (by kernel_rfl) rfl rfl ⟨hx164_0, hx165_0⟩ (fun hHeld => ?_); refine with_tabW signalbenchlaw04_CheckRight.tab9 signalbenchlaw04_CheckRight.bits9 (fun HT_ HW_ => ?_)
         generalize wr.drew = w28 at HO_9 HO_10 BK143 BK150 BK157 HB hx164_0 hx165_0 hHeld ⊢
         refine pstep 0 (some 35) #[true, false, false, false, false, false, false, false, false] HT_.out ?_
         refine pstep 1 (some 36) #[true, true, false, false, false, false, false, false, false] HT_.out ?_
         refine pstep 2 (some 37) #[true, true, true, false, false, false, false, false, false] HT_.out ?_
         refine pstep 4 (some 39) #[true, true, true, false, true, false, false, false, false] HT_.out ?_
         refine pstep 5 (some 40) #[true, true, true, false, true, true, false, false, false] HT_.out ?_
         refine pstep 6 (some 41) #[true, true, true, false, true, true, true, false, false] HT_.out ?_
         refine take_ (i := 3) (N := some 38) (v := ?_) (a' := ?_) #[true, true, true, true, true, true, true, false, false] rfl rfl (take_ofW HT_.out HW_.out (by kernel_rfl)) (fun _ _ _ h => h) (Or.inl ⟨by rfl, ?_⟩) hHeld ?_ ?_
         rotate_left
         ·rintro w' ⟨s0, s1⟩
          go_simp
          with_reducible rfl
         rotate_left
         ·simp only [Act.put, nrm]
          rfl
         refine take_ (i := 7) (N := some 42) (v := ?_) (a' := ?_) #[true, true, true, true, true, true, true, true, false] rfl rfl (take_ofW HT_.out HW_.out (by kernel_rfl)) (fun _ _ _ h => h) (Or.inl ⟨by rfl, ?_⟩) hHeld ?_ ?_
         rotate_left
         ·rintro w' ⟨s0, s1⟩
          go_simp
          with_reducible rfl
         rotate_left
         ·simp only [Act.put, nrm]
          rfl
         refine pstep 8 (some 43) #[true, true, true, true, true, true, true, true, true] HT_.out ?_
         refine done_ (done_of HT_.out (by kernel_rfl)) ?_
         try go_wp2
         go_ret
         exact ⟨by first | rfl | (simp [errW_none, errW_some] <;> rfl) | (simp [*, errW_none, errW_some] <;> rfl), by repeat (first | (with_reducible first | exact HB.out | apply below_alloc | apply pw_below_drewN | apply below_drew1 | refine below_set ?_ GE143.out | refine below_set ?_ GE150.out | refine below_set ?_ GE157.out) | exact HB.out)⟩
       ·rw [if_neg c25] at H
        exact absurd H (by simp)
      ·rw [if_neg c24] at H
       exact absurd H (by simp)
     ·rw [if_neg c23] at H
      have c23b0 : decide (x11_2 < (t161.length : Int)) = false := decide_eq_false c23
      clear c23
      replace H := Option.bind_eq_some_iff.mp H
      obtain ⟨t166, A290, H⟩ := H
      replace H : ((signalbenchref04_Right.f a0_0 a0_1 a0_2 a0_3 a0_4).bind fun t167 => (if (t166 == t167) = true then (if (t144 == t151 && (t145 == t152 && (t146 == t153 && (t147 == t154 && (t148 == t155))))) = true then (if (t149 == t156) = true then ((signalbenchlaw04_awake.f k2).bind fun t168 => (some t168)) else (some false)) else (some false)) else (some false))) = some r := H
      have A29 := Aside0.mk A290
      clear A290
      replace H := Option.bind_eq_some_iff.mp H
      obtain ⟨t167, A300, H⟩ := H
      replace H : (if (t166 == t167) = true then (if (t144 == t151 && (t145 == t152 && (t146 == t153 && (t147 == t154 && (t148 == t155))))) = true then (if (t149 == t156) = true then ((signalbenchlaw04_awake.f k2).bind fun t168 => (some t168)) else (some false)) else (some false)) else (some false)) = some r := H
      have A30 := Aside0.mk A300
      clear A300
      by_cases c31 : (t166 == t167) = true
      ·rw [if_pos c31] at H
       have c31b0 : (t166 == t167) = true := c31
       (try (have c31b1 : decide (t166 = t167) = true := by simpa using c31))
       (try (have c31b2 : (t166 == t167) = true := by simpa using c31))
       clear c31
       by_cases c32 : (t144 == t151 && (t145 == t152 && (t146 == t153 && (t147 == t154 && (t148 == t155))))) = true
       ·rw [if_pos c32] at H
        have c32b0 : (t144 == t151 && (t145 == t152 && (t146 == t153 && (t147 == t154 && (t148 == t155))))) = true := c32
        (try (have c32b1 : decide (t144 = t151 && (t145 == t152 && (t146 == t153 && (t147 == t154 && (t148 == t155))))) = true := by simpa using c32))
        (try (have c32b2 : (t144 == t151 && (t145 == t152 && (t146 == t153 && (t147 == t154 && (t148 == t155))))) = true := by simpa using c32))
        clear c32
        by_cases c33 : (t149 == t156) = true
        ·rw [if_pos c33] at H
         have c33b0 : (t149 == t156) = true := c33
         (try (have c33b1 : decide (t149 = t156) = true := by simpa using c33))
         (try (have c33b2 : (t149 == t156) = true := by simpa using c33))
         clear c33
         replace H := Option.bind_eq_some_iff.mp H
         obtain ⟨t168, A340, H⟩ := H
         replace H : (some t168) = some r := H
         have A34 := Aside0.mk A340
         clear A340
         obtain rfl := Option.some.inj H
         try go_wp2
         have n0_ := Aside0.mk (Kd.R_drew HO_9.out)
         have n1_ := Aside0.mk (Kd.R_drew HO_10.out)
         have n2_ := Aside0.mk (blk_drew BK143.out)
         have n3_ := Aside0.mk (blk_drew BK150.out)
         have n4_ := Aside0.mk (blk_drew BK157.out)
         have n5_ := Aside0.mk (below_drew1 HB.out)
         clear HO_9
         clear HO_10
         clear BK143
         clear BK150
         clear BK157
         clear HB
         have HO_9 := n0_
         have HO_10 := n1_
         have BK143 := n2_
         have BK150 := n3_
         have BK157 := n4_
         have HB := n5_
         clear n0_ n1_ n2_ n3_ n4_ n5_
         refine start_ (n := 19) (S := fun w' => w'.cell? ⟨gb143, 0, none⟩ = some (.int .i64 a0_0) ∧ w'.cell? ⟨gb143, 1, none⟩ = some (.int .i64 a0_1) ∧ w'.cell? ⟨gb143, 2, none⟩ = some (.int .i64 a0_2) ∧ w'.cell? ⟨gb143, 3, none⟩ = some (.int .i64 a0_3) ∧ w'.cell? ⟨gb143, 4, none⟩ = some (.bool a0_4) ∧ w'.cell? ⟨gb150, 0, none⟩ = some (.int .i64 t144) ∧ w'.cell? ⟨gb150, 1, none⟩ = some (.int .i64 t145) ∧ w'.cell? ⟨gb150, 2, none⟩ = some (.int .i64 t146) ∧ w'.cell? ⟨gb150, 3, none⟩ = some (.int .i64 t147) ∧ w'.cell? ⟨gb150, 4, none⟩ = some (.bool t148) ∧ w'.cell? ⟨gb157, 0, none⟩ = some (.int .i64 t151) ∧ w'.cell? ⟨gb157, 1, none⟩ = some (.int .i64 t152) ∧ w'.cell? ⟨gb157, 2, none⟩ = some (.int .i64 t153) ∧ w'.cell? ⟨gb157, 3, none⟩ = some (.int .i64 t154) ∧ w'.cell? ⟨gb157, 4, none⟩ = some (.bool t155)) (ds := []) #[false, false, false, false, false, false, false, false, false, false, false, false, false, false, false, false, false, false, false] (by kernel_rfl) rfl rfl ⟨(blk_cell BK143.out 0).trans rfl, (blk_cell BK143.out 1).trans rfl, (blk_cell BK143.out 2).trans rfl, (blk_cell BK143.out 3).trans rfl, (blk_cell BK143.out 4).trans rfl, (blk_cell BK150.out 0).trans rfl, (blk_cell BK150.out 1).trans rfl, (blk_cell BK150.out 2).trans rfl, (blk_cell BK150.out 3).trans rfl, (blk_cell BK150.out 4).trans rfl, (blk_cell BK157.out 0).trans rfl, (blk_cell BK157.out 1).trans rfl, (blk_cell BK157.out 2).trans rfl, (blk_cell BK157.out 3).trans rfl, (blk_cell BK157.out 4).trans rfl⟩ (fun hHeld => ?_); refine with_tabW signalbenchlaw04_CheckRight.tab11 signalbenchlaw04_CheckRight.bits11 (fun HT_ HW_ => ?_)
         generalize wr.drew = w35 at HO_9 HO_10 BK143 BK150 BK157 HB hHeld ⊢
         refine take_ (i := 0) (N := some 44) (v := ?_) (a' := ?_) #[true, false, false, false, false, false, false, false, false, false, false, false, false, false, false, false, false, false, false] rfl rfl (take_ofW HT_.out HW_.out (by kernel_rfl)) (fun _ _ _ h => h) (Or.inl ⟨by rfl, ?_⟩) hHeld ?_ ?_
         rotate_left
         ·rintro w' ⟨s0, s1, s2, s3, s4, s5, s6, s7, s8, s9, s10, s11, s12, s13, s14⟩
          go_simp
          with_reducible rfl
         rotate_left
         ·simp only [Act.put, nrm]
          rfl
         refine take_ (i := 2) (N := some 46) (v := ?_) (a' := ?_) #[true, false, true, false, false, false, false, false, false, false, false, false, false, false, false, false, false, false, false] rfl rfl (take_ofW HT_.out HW_.out (by kernel_rfl)) (fun _ _ _ h => h) (Or.inl ⟨by rfl, ?_⟩) hHeld ?_ ?_
         rotate_left
         ·rintro w' ⟨s0, s1, s2, s3, s4, s5, s6, s7, s8, s9, s10, s11, s12, s13, s14⟩
          go_simp
          with_reducible rfl
         rotate_left
         ·simp only [Act.put, nrm]
          rfl
         refine one_ (i := 1) (N := some 45) #[true, true, true, false, false, false, false, false, false, false, false, false, false, false, false, false, false, false, false] rfl rfl (one_of HT_.out (by kernel_rfl)) (by decide) (fun K hK => ?_)
         refine goes_ Tryd.func31 (by kernel_rfl) rfl #[.agg #[.int .i64 a0_0, .int .i64 a0_1, .int .i64 a0_2, .int .i64 a0_3, .bool a0_4]] (by rfl) rfl rfl (by (try simp only [List.map_toArray, List.map_cons, List.map_nil]); first | done | rfl | (simp only [List.length_drop, List.length_take]; rfl)) ?_
         with_reducible refine (check_Right.calls k2 a0_0 a0_1 a0_2 a0_3 a0_4 t166 _ A29.out).mono ?_
         rintro e w36 ⟨rfl, hb⟩
         refine ⟨_, rfl, ?_⟩
         have n0_ := Aside0.mk (Kd.R_below (rkw HO_9.out) hb)
         have n1_ := Aside0.mk (Kd.R_below (rkw HO_10.out) hb)
         have n2_ := Aside0.mk (blkb BK143.out hb)
         have n3_ := Aside0.mk (blkb BK150.out hb)
         have n4_ := Aside0.mk (blkb BK157.out hb)
         have n5_ := Aside0.mk (below_step (hbw HB.out) hb)
         clear HO_9
         clear HO_10
         clear BK143
         clear BK150
         clear BK157
         clear HB
         have HO_9 := n0_
         have HO_10 := n1_
         have BK143 := n2_
         have BK150 := n3_
         have BK157 := n4_
         have HB := n5_
         clear n0_ n1_ n2_ n3_ n4_ n5_
         (try clear hb)
         (try clear hb2)
         (try clear hk)
         (try clear hi)
         refine hK.out _ _ ⟨(blk_cell BK143.out 0).trans rfl, (blk_cell BK143.out 1).trans rfl, (blk_cell BK143.out 2).trans rfl, (blk_cell BK143.out 3).trans rfl, (blk_cell BK143.out 4).trans rfl, (blk_cell BK150.out 0).trans rfl, (blk_cell BK150.out 1).trans rfl, (blk_cell BK150.out 2).trans rfl, (blk_cell BK150.out 3).trans rfl, (blk_cell BK150.out 4).trans rfl, (blk_cell BK157.out 0).trans rfl, (blk_cell BK157.out 1).trans rfl, (blk_cell BK157.out 2).trans rfl, (blk_cell BK157.out 3).trans rfl, (blk_cell BK157.out 4).trans rfl⟩ (fun hHeld => ?_)
         clear hK K
         refine norm_ (a' := ?_) ?_ ?_
         rotate_left
         ·show Act.put _ (some 45) _ = _
          simp only [Act.put, nrm]
          rfl
         refine one_ (i := 3) (N := some 47) #[true, true, true, true, false, false, false, false, false, false, false, false, false, false, false, false, false, false, false] rfl rfl (one_of HT_.out (by kernel_rfl)) (by decide) (fun K hK => ?_)
         refine goes_ Tryd.func23 (by kernel_rfl) rfl #[.agg #[.int .i64 a0_0, .int .i64 a0_1, .int .i64 a0_2, .int .i64 a0_3, .bool a0_4]] (by rfl) rfl rfl (by (try simp only [List.map_toArray, List.map_cons, List.map_nil]); first | done | rfl | (simp only [List.length_drop, List.length_take]; rfl)) ?_
         with_reducible refine (signalbenchref04_Right.calls a0_0 a0_1 a0_2 a0_3 a0_4 t167 _ A30.out).mono ?_
         rintro e w37 ⟨rfl, hb⟩
         refine ⟨_, rfl, ?_⟩
         have n0_ := Aside0.mk (Kd.R_below (rkw HO_9.out) hb)
         have n1_ := Aside0.mk (Kd.R_below (rkw HO_10.out) hb)
         have n2_ := Aside0.mk (blkb BK143.out hb)
         have n3_ := Aside0.mk (blkb BK150.out hb)
         have n4_ := Aside0.mk (blkb BK157.out hb)
         have n5_ := Aside0.mk (below_step (hbw HB.out) hb)
         clear HO_9
         clear HO_10
         clear BK143
         clear BK150
         clear BK157
         clear HB
         have HO_9 := n0_
         have HO_10 := n1_
         have BK143 := n2_
         have BK150 := n3_
         have BK157 := n4_
         have HB := n5_
         clear n0_ n1_ n2_ n3_ n4_ n5_
         (try clear hb)
         (try clear hb2)
         (try clear hk)
         (try clear hi)
         refine hK.out _ _ ⟨(blk_cell BK143.out 0).trans rfl, (blk_cell BK143.out 1).trans rfl, (blk_cell BK143.out 2).trans rfl, (blk_cell BK143.out 3).trans rfl, (blk_cell BK143.out 4).trans rfl, (blk_cell BK150.out 0).trans rfl, (blk_cell BK150.out 1).trans rfl, (blk_cell BK150.out 2).trans rfl, (blk_cell BK150.out 3).trans rfl, (blk_cell BK150.out 4).trans rfl, (blk_cell BK157.out 0).trans rfl, (blk_cell BK157.out 1).trans rfl, (blk_cell BK157.out 2).trans rfl, (blk_cell BK157.out 3).trans rfl, (blk_cell BK157.out 4).trans rfl⟩ (fun hHeld => ?_)
         clear hK K
         refine norm_ (a' := ?_) ?_ ?_
         rotate_left
         ·show Act.put _ (some 47) _ = _
          simp only [Act.put, nrm]
          rfl
         refine pstep 4 (some 48) #[true, true, true, true, true, false, false, false, false, false, false, false, false, false, false, false, false, false, false] HT_.out ?_
         refine pstep 5 (some 49) #[true, true, true, true, true, true, false, false, false, false, false, false, false, false, false, false, false, false, false] HT_.out ?_
         refine take_ (i := 6) (N := some 50) (v := ?_) (a' := ?_) #[true, true, true, true, true, true, true, false, false, false, false, false, false, false, false, false, false, false, false] rfl rfl (take_ofW HT_.out HW_.out (by kernel_rfl)) (fun _ _ _ h => h) (Or.inl ⟨by rfl, ?_⟩) hHeld ?_ ?_
         rotate_left
         ·rintro w' ⟨s0, s1, s2, s3, s4, s5, s6, s7, s8, s9, s10, s11, s12, s13, s14⟩
          go_simp
          with_reducible rfl
         rotate_left
         ·simp only [Act.put, nrm]
          rfl
         refine take_ (i := 7) (N := some 51) (v := ?_) (a' := ?_) #[true, true, true, true, true, true, true, true, false, false, false, false, false, false, false, false, false, false, false] rfl rfl (take_ofW HT_.out HW_.out (by kernel_rfl)) (fun _ _ _ h => h) (Or.inl ⟨by rfl, ?_⟩) hHeld ?_ ?_
         rotate_left
         ·rintro w' ⟨s0, s1, s2, s3, s4, s5, s6, s7, s8, s9, s10, s11, s12, s13, s14⟩
          go_simp
          with_reducible rfl
         rotate_left
         ·simp only [Act.put, nrm]
          rfl
         refine pstep 8 (some 52) #[true, true, true, true, true, true, true, true, true, false, false, false, false, false, false, false, false, false, false] HT_.out ?_
         refine pstep 9 (some 53) #[true, true, true, true, true, true, true, true, true, true, false, false, false, false, false, false, false, false, false] HT_.out ?_
         refine pstep 10 (some 54) #[true, true, true, true, true, true, true, true, true, true, true, false, false, false, false, false, false, false, false] HT_.out ?_
         refine pstep 11 (some 55) #[true, true, true, true, true, true, true, true, true, true, true, true, false, false, false, false, false, false, false] HT_.out ?_
         refine pstep 12 (some 56) #[true, true, true, true, true, true, true, true, true, true, true, true, true, false, false, false, false, false, false] HT_.out ?_
         refine pstep 13 (some 57) #[true, true, true, true, true, true, true, true, true, true, true, true, true, true, false, false, false, false, false] HT_.out ?_
         refine pstep 14 (some 58) #[true, true, true, true, true, true, true, true, true, true, true, true, true, true, true, false, false, false, false] HT_.out ?_
         refine pstep 15 (some 59) #[true, true, true, true, true, true, true, true, true, true, true, true, true, true, true, true, false, false, false] HT_.out ?_
         refine one_ (i := 16) (N := some 60) #[true, true, true, true, true, true, true, true, true, true, true, true, true, true, true, true, true, false, false] rfl rfl (one_of HT_.out (by kernel_rfl)) (by decide) (fun K hK => ?_)
         refine goes_ Tryd.func11 (by kernel_rfl) rfl #[] (by rfl) rfl rfl (by (try simp only [List.map_toArray, List.map_cons, List.map_nil]); first | done | rfl | (simp only [List.length_drop, List.length_take]; rfl)) ?_
         with_reducible refine (signalbenchlaw04_awake.calls k2  t168 _ ?side1 A34.out).mono ?_
         (case side1 => refine TabOk.below hT_ ?_; repeat (first | (with_reducible first | exact HB.out | apply below_alloc | apply pw_below_drewN | apply below_drew1 | refine below_set ?_ GE143.out | refine below_set ?_ GE150.out | refine below_set ?_ GE157.out) | exact HB.out))
         rintro e w38 ⟨rfl, hb⟩
         refine ⟨_, rfl, ?_⟩
         have n0_ := Aside0.mk (Kd.R_below (rkw HO_9.out) hb)
         have n1_ := Aside0.mk (Kd.R_below (rkw HO_10.out) hb)
         have n2_ := Aside0.mk (blkb BK143.out hb)
         have n3_ := Aside0.mk (blkb BK150.out hb)
         have n4_ := Aside0.mk (blkb BK157.out hb)
         have n5_ := Aside0.mk (below_step (hbw HB.out) hb)
         clear HO_9
         clear HO_10
         clear BK143
         clear BK150
         clear BK157
         clear HB
         have HO_9 := n0_
         have HO_10 := n1_
         have BK143 := n2_
         have BK150 := n3_
         have BK157 := n4_
         have HB := n5_
         clear n0_ n1_ n2_ n3_ n4_ n5_
         (try clear hb)
         (try clear hb2)
         (try clear hk)
         (try clear hi)
         refine hK.out _ _ ⟨(blk_cell BK143.out 0).trans rfl, (blk_cell BK143.out 1).trans rfl, (blk_cell BK143.out 2).trans rfl, (blk_cell BK143.out 3).trans rfl, (blk_cell BK143.out 4).trans rfl, (blk_cell BK150.out 0).trans rfl, (blk_cell BK150.out 1).trans rfl, (blk_cell BK150.out 2).trans rfl, (blk_cell BK150.out 3).trans rfl, (blk_cell BK150.out 4).trans rfl, (blk_cell BK157.out 0).trans rfl, (blk_cell BK157.out 1).trans rfl, (blk_cell BK157.out 2).trans rfl, (blk_cell BK157.out 3).trans rfl, (blk_cell BK157.out 4).trans rfl⟩ (fun hHeld => ?_)
         clear hK K
         refine norm_ (a' := ?_) ?_ ?_
         rotate_left
         ·show Act.put _ (some 60) _ = _
          simp only [Act.put, nrm]
          rfl
         refine pstep 17 (some 61) #[true, true, true, true, true, true, true, true, true, true, true, true, true, true, true, true, true, true, false] HT_.out ?_
         refine pstep 18 (some 4) #[true, true, true, true, true, true, true, true, true, true, true, true, true, true, true, true, true, true, true] HT_.out ?_
         refine done_ (done_of HT_.out (by kernel_rfl)) ?_
         try go_wp2
         go_ret
         exact ⟨by first | rfl | (simp [errW_none, errW_some] <;> rfl) | (simp [*, errW_none, errW_some] <;> rfl), by repeat (first | (with_reducible first | exact HB.out | apply below_alloc | apply pw_below_drewN | apply below_drew1 | refine below_set ?_ GE143.out | refine below_set ?_ GE150.out | refine below_set ?_ GE157.out) | exact HB.out)⟩
        ·rw [if_neg c33] at H
         have c33b0 : (t149 == t156) = false := by simpa using c33
         (try (have c33b1 : decide (t149 = t156) = false := by simpa using c33))
         (try (have c33b2 : (t149 == t156) = false := by simpa using c33))
         (try (have c33b3 : ¬ (t149 = t156) := by simpa using c33))
         clear c33
         obtain rfl := Option.some.inj H
         try go_wp2
         have n0_ := Aside0.mk (Kd.R_drew HO_9.out)
         have n1_ := Aside0.mk (Kd.R_drew HO_10.out)
         have n2_ := Aside0.mk (blk_drew BK143.out)
         have n3_ := Aside0.mk (blk_drew BK150.out)
         have n4_ := Aside0.mk (blk_drew BK157.out)
         have n5_ := Aside0.mk (below_drew1 HB.out)
         clear HO_9
         clear HO_10
         clear BK143
         clear BK150
         clear BK157
         clear HB
         have HO_9 := n0_
         have HO_10 := n1_
         have BK143 := n2_
         have BK150 := n3_
         have BK157 := n4_
         have HB := n5_
         clear n0_ n1_ n2_ n3_ n4_ n5_
         refine start_ (n := 19) (S := fun w' => w'.cell? ⟨gb143, 0, none⟩ = some (.int .i64 a0_0) ∧ w'.cell? ⟨gb143, 1, none⟩ = some (.int .i64 a0_1) ∧ w'.cell? ⟨gb143, 2, none⟩ = some (.int .i64 a0_2) ∧ w'.cell? ⟨gb143, 3, none⟩ = some (.int .i64 a0_3) ∧ w'.cell? ⟨gb143, 4, none⟩ = some (.bool a0_4) ∧ w'.cell? ⟨gb150, 0, none⟩ = some (.int .i64 t144) ∧ w'.cell? ⟨gb150, 1, none⟩ = some (.int .i64 t145) ∧ w'.cell? ⟨gb150, 2, none⟩ = some (.int .i64 t146) ∧ w'.cell? ⟨gb150, 3, none⟩ = some (.int .i64 t147) ∧ w'.cell? ⟨gb150, 4, none⟩ = some (.bool t148) ∧ w'.cell? ⟨gb157, 0, none⟩ = some (.int .i64 t151) ∧ w'.cell? ⟨gb157, 1, none⟩ = some (.int .i64 t152) ∧ w'.cell? ⟨gb157, 2, none⟩ = some (.int .i64 t153) ∧ w'.cell? ⟨gb157, 3, none⟩ = some (.int .i64 t154) ∧ w'.cell? ⟨gb157, 4, none⟩ = some (.bool t155)) (ds := []) #[false, false, false, false, false, false, false, false, false, false, false, false, false, false, false, false, false, false, false] (by kernel_rfl) rfl rfl ⟨(blk_cell BK143.out 0).trans rfl, (blk_cell BK143.out 1).trans rfl, (blk_cell BK143.out 2).trans rfl, (blk_cell BK143.out 3).trans rfl, (blk_cell BK143.out 4).trans rfl, (blk_cell BK150.out 0).trans rfl, (blk_cell BK150.out 1).trans rfl, (blk_cell BK150.out 2).trans rfl, (blk_cell BK150.out 3).trans rfl, (blk_cell BK150.out 4).trans rfl, (blk_cell BK157.out 0).trans rfl, (blk_cell BK157.out 1).trans rfl, (blk_cell BK157.out 2).trans rfl, (blk_cell BK157.out 3).trans rfl, (blk_cell BK157.out 4).trans rfl⟩ (fun hHeld => ?_); refine with_tabW signalbenchlaw04_CheckRight.tab11 signalbenchlaw04_CheckRight.bits11 (fun HT_ HW_ => ?_)
         generalize wr.drew = w39 at HO_9 HO_10 BK143 BK150 BK157 HB hHeld ⊢
         refine take_ (i := 0) (N := some 44) (v := ?_) (a' := ?_) #[true, false, false, false, false, false, false, false, false, false, false, false, false, false, false, false, false, false, false] rfl rfl (take_ofW HT_.out HW_.out (by kernel_rfl)) (fun _ _ _ h => h) (Or.inl ⟨by rfl, ?_⟩) hHeld ?_ ?_
         rotate_left
         ·rintro w' ⟨s0, s1, s2, s3, s4, s5, s6, s7, s8, s9, s10, s11, s12, s13, s14⟩
          go_simp
          with_reducible rfl
         rotate_left
         ·simp only [Act.put, nrm]
          rfl
         refine take_ (i := 2) (N := some 46) (v := ?_) (a' := ?_) #[true, false, true, false, false, false, false, false, false, false, false, false, false, false, false, false, false, false, false] rfl rfl (take_ofW HT_.out HW_.out (by kernel_rfl)) (fun _ _ _ h => h) (Or.inl ⟨by rfl, ?_⟩) hHeld ?_ ?_
         rotate_left
         ·rintro w' ⟨s0, s1, s2, s3, s4, s5, s6, s7, s8, s9, s10, s11, s12, s13, s14⟩
          go_simp
          with_reducible rfl
         rotate_left
         ·simp only [Act.put, nrm]
          rfl
         refine one_ (i := 1) (N := some 45) #[true, true, true, false, false, false, false, false, false, false, false, false, false, false, false, false, false, false, false] rfl rfl (one_of HT_.out (by kernel_rfl)) (by decide) (fun K hK => ?_)
         refine goes_ Tryd.func31 (by kernel_rfl) rfl #[.agg #[.int .i64 a0_0, .int .i64 a0_1, .int .i64 a0_2, .int .i64 a0_3, .bool a0_4]] (by rfl) rfl rfl (by (try simp only [List.map_toArray, List.map_cons, List.map_nil]); first | done | rfl | (simp only [List.length_drop, List.length_take]; rfl)) ?_
         with_reducible refine (check_Right.calls k2 a0_0 a0_1 a0_2 a0_3 a0_4 t166 _ A29.out).mono ?_
         rintro e w40 ⟨rfl, hb⟩
         refine ⟨_, rfl, ?_⟩
         have n0_ := Aside0.mk (Kd.R_below (rkw HO_9.out) hb)
         have n1_ := Aside0.mk (Kd.R_below (rkw HO_10.out) hb)
         have n2_ := Aside0.mk (blkb BK143.out hb)
         have n3_ := Aside0.mk (blkb BK150.out hb)
         have n4_ := Aside0.mk (blkb BK157.out hb)
         have n5_ := Aside0.mk (below_step (hbw HB.out) hb)
         clear HO_9
         clear HO_10
         clear BK143
         clear BK150
         clear BK157
         clear HB
         have HO_9 := n0_
         have HO_10 := n1_
         have BK143 := n2_
         have BK150 := n3_
         have BK157 := n4_
         have HB := n5_
         clear n0_ n1_ n2_ n3_ n4_ n5_
         (try clear hb)
         (try clear hb2)
         (try clear hk)
         (try clear hi)
         refine hK.out _ _ ⟨(blk_cell BK143.out 0).trans rfl, (blk_cell BK143.out 1).trans rfl, (blk_cell BK143.out 2).trans rfl, (blk_cell BK143.out 3).trans rfl, (blk_cell BK143.out 4).trans rfl, (blk_cell BK150.out 0).trans rfl, (blk_cell BK150.out 1).trans rfl, (blk_cell BK150.out 2).trans rfl, (blk_cell BK150.out 3).trans rfl, (blk_cell BK150.out 4).trans rfl, (blk_cell BK157.out 0).trans rfl, (blk_cell BK157.out 1).trans rfl, (blk_cell BK157.out 2).trans rfl, (blk_cell BK157.out 3).trans rfl, (blk_cell BK157.out 4).trans rfl⟩ (fun hHeld => ?_)
         clear hK K
         refine norm_ (a' := ?_) ?_ ?_
         rotate_left
         ·show Act.put _ (some 45) _ = _
          simp only [Act.put, nrm]
          rfl
         refine one_ (i := 3) (N := some 47) #[true, true, true, true, false, false, false, false, false, false, false, false, false, false, false, false, false, false, false] rfl rfl (one_of HT_.out (by kernel_rfl)) (by decide) (fun K hK => ?_)
         refine goes_ Tryd.func23 (by kernel_rfl) rfl #[.agg #[.int .i64 a0_0, .int .i64 a0_1, .int .i64 a0_2, .int .i64 a0_3, .bool a0_4]] (by rfl) rfl rfl (by (try simp only [List.map_toArray, List.map_cons, List.map_nil]); first | done | rfl | (simp only [List.length_drop, List.length_take]; rfl)) ?_
         with_reducible refine (signalbenchref04_Right.calls a0_0 a0_1 a0_2 a0_3 a0_4 t167 _ A30.out).mono ?_
         rintro e w41 ⟨rfl, hb⟩
         refine ⟨_, rfl, ?_⟩
         have n0_ := Aside0.mk (Kd.R_below (rkw HO_9.out) hb)
         have n1_ := Aside0.mk (Kd.R_below (rkw HO_10.out) hb)
         have n2_ := Aside0.mk (blkb BK143.out hb)
         have n3_ := Aside0.mk (blkb BK150.out hb)
         have n4_ := Aside0.mk (blkb BK157.out hb)
         have n5_ := Aside0.mk (below_step (hbw HB.out) hb)
         clear HO_9
         clear HO_10
         clear BK143
         clear BK150
         clear BK157
         clear HB
         have HO_9 := n0_
         have HO_10 := n1_
         have BK143 := n2_
         have BK150 := n3_
         have BK157 := n4_
         have HB := n5_
         clear n0_ n1_ n2_ n3_ n4_ n5_
         (try clear hb)
         (try clear hb2)
         (try clear hk)
         (try clear hi)
         refine hK.out _ _ ⟨(blk_cell BK143.out 0).trans rfl, (blk_cell BK143.out 1).trans rfl, (blk_cell BK143.out 2).trans rfl, (blk_cell BK143.out 3).trans rfl, (blk_cell BK143.out 4).trans rfl, (blk_cell BK150.out 0).trans rfl, (blk_cell BK150.out 1).trans rfl, (blk_cell BK150.out 2).trans rfl, (blk_cell BK150.out 3).trans rfl, (blk_cell BK150.out 4).trans rfl, (blk_cell BK157.out 0).trans rfl, (blk_cell BK157.out 1).trans rfl, (blk_cell BK157.out 2).trans rfl, (blk_cell BK157.out 3).trans rfl, (blk_cell BK157.out 4).trans rfl⟩ (fun hHeld => ?_)
         clear hK K
         refine norm_ (a' := ?_) ?_ ?_
         rotate_left
         ·show Act.put _ (some 47) _ = _
          simp only [Act.put, nrm]
          rfl
         refine pstep 4 (some 48) #[true, true, true, true, true, false, false, false, false, false, false, false, false, false, false, false, false, false, false] HT_.out ?_
         refine pstep 5 (some 49) #[true, true, true, true, true, true, false, false, false, false, false, false, false, false, false, false, false, false, false] HT_.out ?_
         refine take_ (i := 6) (N := some 50) (v := ?_) (a' := ?_) #[true, true, true, true, true, true, true, false, false, false, false, false, false, false, false, false, false, false, false] rfl rfl (take_ofW HT_.out HW_.out (by kernel_rfl)) (fun _ _ _ h => h) (Or.inl ⟨by rfl, ?_⟩) hHeld ?_ ?_
         rotate_left
         ·rintro w' ⟨s0, s1, s2, s3, s4, s5, s6, s7, s8, s9, s10, s11, s12, s13, s14⟩
          go_simp
          with_reducible rfl
         rotate_left
         ·simp only [Act.put, nrm]
          rfl
         refine take_ (i := 7) (N := some 51) (v := ?_) (a' := ?_) #[true, true, true, true, true, true, true, true, false, false, false, false, false, false, false, false, false, false, false] rfl rfl (take_ofW HT_.out HW_.out (by kernel_rfl)) (fun _ _ _ h => h) (Or.inl ⟨by rfl, ?_⟩) hHeld ?_ ?_
         rotate_left
         ·rintro w' ⟨s0, s1, s2, s3, s4, s5, s6, s7, s8, s9, s10, s11, s12, s13, s14⟩
          go_simp
          with_reducible rfl
         rotate_left
         ·simp only [Act.put, nrm]
          rfl
         refine pstep 8 (some 52) #[true, true, true, true, true, true, true, true, true, false, false, false, false, false, false, false, false, false, false] HT_.out ?_
         refine pstep 9 (some 53) #[true, true, true, true, true, true, true, true, true, true, false, false, false, false, false, false, false, false, false] HT_.out ?_
         refine pstep 10 (some 54) #[true, true, true, true, true, true, true, true, true, true, true, false, false, false, false, false, false, false, false] HT_.out ?_
         refine pstep 11 (some 55) #[true, true, true, true, true, true, true, true, true, true, true, true, false, false, false, false, false, false, false] HT_.out ?_
         refine pstep 12 (some 56) #[true, true, true, true, true, true, true, true, true, true, true, true, true, false, false, false, false, false, false] HT_.out ?_
         refine pstep 13 (some 57) #[true, true, true, true, true, true, true, true, true, true, true, true, true, true, false, false, false, false, false] HT_.out ?_
         refine pstep 14 (some 58) #[true, true, true, true, true, true, true, true, true, true, true, true, true, true, true, false, false, false, false] HT_.out ?_
         refine pstep 15 (some 59) #[true, true, true, true, true, true, true, true, true, true, true, true, true, true, true, true, false, false, false] HT_.out ?_
         refine pure_ (i := 16) (N := some 60) (v := undef) (a' := ?_) #[true, true, true, true, true, true, true, true, true, true, true, true, true, true, true, true, true, false, false] rfl rfl (any_of HT_.out (by kernel_rfl)) (fun _ _ _ h => h) (Or.inr ⟨by rfl, rfl⟩) ?_ ?_
         rotate_left
         ·simp only [Act.put, nrm]
          rfl
         refine pstep 17 (some 61) #[true, true, true, true, true, true, true, true, true, true, true, true, true, true, true, true, true, true, false] HT_.out ?_
         refine pstep 18 (some 4) #[true, true, true, true, true, true, true, true, true, true, true, true, true, true, true, true, true, true, true] HT_.out ?_
         refine done_ (done_of HT_.out (by kernel_rfl)) ?_
         try go_wp2
         go_ret
         exact ⟨by first | rfl | (simp [errW_none, errW_some] <;> rfl) | (simp [*, errW_none, errW_some] <;> rfl), by repeat (first | (with_reducible first | exact HB.out | apply below_alloc | apply pw_below_drewN | apply below_drew1 | refine below_set ?_ GE143.out | refine below_set ?_ GE150.out | refine below_set ?_ GE157.out) | exact HB.out)⟩
       ·rw [if_neg c32] at H
        have c32b0 : (t144 == t151 && (t145 == t152 && (t146 == t153 && (t147 == t154 && (t148 == t155))))) = false := by simpa using c32
        (try (have c32b1 : decide (t144 = t151 && (t145 == t152 && (t146 == t153 && (t147 == t154 && (t148 == t155))))) = false := by simpa using c32))
        (try (have c32b2 : (t144 == t151 && (t145 == t152 && (t146 == t153 && (t147 == t154 && (t148 == t155))))) = false := by simpa using c32))
        (try (have c32b3 : ¬ (t144 = t151 && (t145 == t152 && (t146 == t153 && (t147 == t154 && (t148 == t155))))) := by simpa using c32))
        clear c32
        obtain rfl := Option.some.inj H
        try go_wp2
        have n0_ := Aside0.mk (Kd.R_drew HO_9.out)
        have n1_ := Aside0.mk (Kd.R_drew HO_10.out)
        have n2_ := Aside0.mk (blk_drew BK143.out)
        have n3_ := Aside0.mk (blk_drew BK150.out)
        have n4_ := Aside0.mk (blk_drew BK157.out)
        have n5_ := Aside0.mk (below_drew1 HB.out)
        clear HO_9
        clear HO_10
        clear BK143
        clear BK150
        clear BK157
        clear HB
        have HO_9 := n0_
        have HO_10 := n1_
        have BK143 := n2_
        have BK150 := n3_
        have BK157 := n4_
        have HB := n5_
        clear n0_ n1_ n2_ n3_ n4_ n5_
        refine start_ (n := 19) (S := fun w' => w'.cell? ⟨gb143, 0, none⟩ = some (.int .i64 a0_0) ∧ w'.cell? ⟨gb143, 1, none⟩ = some (.int .i64 a0_1) ∧ w'.cell? ⟨gb143, 2, none⟩ = some (.int .i64 a0_2) ∧ w'.cell? ⟨gb143, 3, none⟩ = some (.int .i64 a0_3) ∧ w'.cell? ⟨gb143, 4, none⟩ = some (.bool a0_4) ∧ w'.cell? ⟨gb150, 0, none⟩ = some (.int .i64 t144) ∧ w'.cell? ⟨gb150, 1, none⟩ = some (.int .i64 t145) ∧ w'.cell? ⟨gb150, 2, none⟩ = some (.int .i64 t146) ∧ w'.cell? ⟨gb150, 3, none⟩ = some (.int .i64 t147) ∧ w'.cell? ⟨gb150, 4, none⟩ = some (.bool t148) ∧ w'.cell? ⟨gb157, 0, none⟩ = some (.int .i64 t151) ∧ w'.cell? ⟨gb157, 1, none⟩ = some (.int .i64 t152) ∧ w'.cell? ⟨gb157, 2, none⟩ = some (.int .i64 t153) ∧ w'.cell? ⟨gb157, 3, none⟩ = some (.int .i64 t154) ∧ w'.cell? ⟨gb157, 4, none⟩ = some (.bool t155)) (ds := []) #[false, false, false, false, false, false, false, false, false, false, false, false, false, false, false, false, false, false, false] (by kernel_rfl) rfl rfl ⟨(blk_cell BK143.out 0).trans rfl, (blk_cell BK143.out 1).trans rfl, (blk_cell BK143.out 2).trans rfl, (blk_cell BK143.out 3).trans rfl, (blk_cell BK143.out 4).trans rfl, (blk_cell BK150.out 0).trans rfl, (blk_cell BK150.out 1).trans rfl, (blk_cell BK150.out 2).trans rfl, (blk_cell BK150.out 3).trans rfl, (blk_cell BK150.out 4).trans rfl, (blk_cell BK157.out 0).trans rfl, (blk_cell BK157.out 1).trans rfl, (blk_cell BK157.out 2).trans rfl, (blk_cell BK157.out 3).trans rfl, (blk_cell BK157.out 4).trans rfl⟩ (fun hHeld => ?_); refine with_tabW signalbenchlaw04_CheckRight.tab11 signalbenchlaw04_CheckRight.bits11 (fun HT_ HW_ => ?_)
        generalize wr.drew = w42 at HO_9 HO_10 BK143 BK150 BK157 HB hHeld ⊢
        refine take_ (i := 0) (N := some 44) (v := ?_) (a' := ?_) #[true, false, false, false, false, false, false, false, false, false, false, false, false, false, false, false, false, false, false] rfl rfl (take_ofW HT_.out HW_.out (by kernel_rfl)) (fun _ _ _ h => h) (Or.inl ⟨by rfl, ?_⟩) hHeld ?_ ?_
        rotate_left
        ·rintro w' ⟨s0, s1, s2, s3, s4, s5, s6, s7, s8, s9, s10, s11, s12, s13, s14⟩
         go_simp
         with_reducible rfl
        rotate_left
        ·simp only [Act.put, nrm]
         rfl
        refine take_ (i := 2) (N := some 46) (v := ?_) (a' := ?_) #[true, false, true, false, false, false, false, false, false, false, false, false, false, false, false, false, false, false, false] rfl rfl (take_ofW HT_.out HW_.out (by kernel_rfl)) (fun _ _ _ h => h) (Or.inl ⟨by rfl, ?_⟩) hHeld ?_ ?_
        rotate_left
        ·rintro w' ⟨s0, s1, s2, s3, s4, s5, s6, s7, s8, s9, s10, s11, s12, s13, s14⟩
         go_simp
         with_reducible rfl
        rotate_left
        ·simp only [Act.put, nrm]
         rfl
        refine one_ (i := 1) (N := some 45) #[true, true, true, false, false, false, false, false, false, false, false, false, false, false, false, false, false, false, false] rfl rfl (one_of HT_.out (by kernel_rfl)) (by decide) (fun K hK => ?_)
        refine goes_ Tryd.func31 (by kernel_rfl) rfl #[.agg #[.int .i64 a0_0, .int .i64 a0_1, .int .i64 a0_2, .int .i64 a0_3, .bool a0_4]] (by rfl) rfl rfl (by (try simp only [List.map_toArray, List.map_cons, List.map_nil]); first | done | rfl | (simp only [List.length_drop, List.length_take]; rfl)) ?_
        with_reducible refine (check_Right.calls k2 a0_0 a0_1 a0_2 a0_3 a0_4 t166 _ A29.out).mono ?_
        rintro e w43 ⟨rfl, hb⟩
        refine ⟨_, rfl, ?_⟩
        have n0_ := Aside0.mk (Kd.R_below (rkw HO_9.out) hb)
        have n1_ := Aside0.mk (Kd.R_below (rkw HO_10.out) hb)
        have n2_ := Aside0.mk (blkb BK143.out hb)
        have n3_ := Aside0.mk (blkb BK150.out hb)
        have n4_ := Aside0.mk (blkb BK157.out hb)
        have n5_ := Aside0.mk (below_step (hbw HB.out) hb)
        clear HO_9
        clear HO_10
        clear BK143
        clear BK150
        clear BK157
        clear HB
        have HO_9 := n0_
        have HO_10 := n1_
        have BK143 := n2_
        have BK150 := n3_
        have BK157 := n4_
        have HB := n5_
        clear n0_ n1_ n2_ n3_ n4_ n5_
        (try clear hb)
        (try clear hb2)
        (try clear hk)
        (try clear hi)
        refine hK.out _ _ ⟨(blk_cell BK143.out 0).trans rfl, (blk_cell BK143.out 1).trans rfl, (blk_cell BK143.out 2).trans rfl, (blk_cell BK143.out 3).trans rfl, (blk_cell BK143.out 4).trans rfl, (blk_cell BK150.out 0).trans rfl, (blk_cell BK150.out 1).trans rfl, (blk_cell BK150.out 2).trans rfl, (blk_cell BK150.out 3).trans rfl, (blk_cell BK150.out 4).trans rfl, (blk_cell BK157.out 0).trans rfl, (blk_cell BK157.out 1).trans rfl, (blk_cell BK157.out 2).trans rfl, (blk_cell BK157.out 3).trans rfl, (blk_cell BK157.out 4).trans rfl⟩ (fun hHeld => ?_)
        clear hK K
        refine norm_ (a' := ?_) ?_ ?_
        rotate_left
        ·show Act.put _ (some 45) _ = _
         simp only [Act.put, nrm]
         rfl
        refine one_ (i := 3) (N := some 47) #[true, true, true, true, false, false, false, false, false, false, false, false, false, false, false, false, false, false, false] rfl rfl (one_of HT_.out (by kernel_rfl)) (by decide) (fun K hK => ?_)
        refine goes_ Tryd.func23 (by kernel_rfl) rfl #[.agg #[.int .i64 a0_0, .int .i64 a0_1, .int .i64 a0_2, .int .i64 a0_3, .bool a0_4]] (by rfl) rfl rfl (by (try simp only [List.map_toArray, List.map_cons, List.map_nil]); first | done | rfl | (simp only [List.length_drop, List.length_take]; rfl)) ?_
        with_reducible refine (signalbenchref04_Right.calls a0_0 a0_1 a0_2 a0_3 a0_4 t167 _ A30.out).mono ?_
        rintro e w44 ⟨rfl, hb⟩
        refine ⟨_, rfl, ?_⟩
        have n0_ := Aside0.mk (Kd.R_below (rkw HO_9.out) hb)
        have n1_ := Aside0.mk (Kd.R_below (rkw HO_10.out) hb)
        have n2_ := Aside0.mk (blkb BK143.out hb)
        have n3_ := Aside0.mk (blkb BK150.out hb)
        have n4_ := Aside0.mk (blkb BK157.out hb)
        have n5_ := Aside0.mk (below_step (hbw HB.out) hb)
        clear HO_9
        clear HO_10
        clear BK143
        clear BK150
        clear BK157
        clear HB
        have HO_9 := n0_
        have HO_10 := n1_
        have BK143 := n2_
        have BK150 := n3_
        have BK157 := n4_
        have HB := n5_
        clear n0_ n1_ n2_ n3_ n4_ n5_
        (try clear hb)
        (try clear hb2)
        (try clear hk)
        (try clear hi)
        refine hK.out _ _ ⟨(blk_cell BK143.out 0).trans rfl, (blk_cell BK143.out 1).trans rfl, (blk_cell BK143.out 2).trans rfl, (blk_cell BK143.out 3).trans rfl, (blk_cell BK143.out 4).trans rfl, (blk_cell BK150.out 0).trans rfl, (blk_cell BK150.out 1).trans rfl, (blk_cell BK150.out 2).trans rfl, (blk_cell BK150.out 3).trans rfl, (blk_cell BK150.out 4).trans rfl, (blk_cell BK157.out 0).trans rfl, (blk_cell BK157.out 1).trans rfl, (blk_cell BK157.out 2).trans rfl, (blk_cell BK157.out 3).trans rfl, (blk_cell BK157.out 4).trans rfl⟩ (fun hHeld => ?_)
        clear hK K
        refine norm_ (a' := ?_) ?_ ?_
        rotate_left
        ·show Act.put _ (some 47) _ = _
         simp only [Act.put, nrm]
         rfl
        refine pstep 4 (some 48) #[true, true, true, true, true, false, false, false, false, false, false, false, false, false, false, false, false, false, false] HT_.out ?_
        refine pstep 5 (some 49) #[true, true, true, true, true, true, false, false, false, false, false, false, false, false, false, false, false, false, false] HT_.out ?_
        refine take_ (i := 6) (N := some 50) (v := ?_) (a' := ?_) #[true, true, true, true, true, true, true, false, false, false, false, false, false, false, false, false, false, false, false] rfl rfl (take_ofW HT_.out HW_.out (by kernel_rfl)) (fun _ _ _ h => h) (Or.inl ⟨by rfl, ?_⟩) hHeld ?_ ?_
        rotate_left
        ·rintro w' ⟨s0, s1, s2, s3, s4, s5, s6, s7, s8, s9, s10, s11, s12, s13, s14⟩
         go_simp
         with_reducible rfl
        rotate_left
        ·simp only [Act.put, nrm]
         rfl
        refine take_ (i := 7) (N := some 51) (v := ?_) (a' := ?_) #[true, true, true, true, true, true, true, true, false, false, false, false, false, false, false, false, false, false, false] rfl rfl (take_ofW HT_.out HW_.out (by kernel_rfl)) (fun _ _ _ h => h) (Or.inl ⟨by rfl, ?_⟩) hHeld ?_ ?_
        rotate_left
        ·rintro w' ⟨s0, s1, s2, s3, s4, s5, s6, s7, s8, s9, s10, s11, s12, s13, s14⟩
         go_simp
         with_reducible rfl
        rotate_left
        ·simp only [Act.put, nrm]
         rfl
        refine pstep 8 (some 52) #[true, true, true, true, true, true, true, true, true, false, false, false, false, false, false, false, false, false, false] HT_.out ?_
        refine pstep 9 (some 53) #[true, true, true, true, true, true, true, true, true, true, false, false, false, false, false, false, false, false, false] HT_.out ?_
        refine pstep 10 (some 54) #[true, true, true, true, true, true, true, true, true, true, true, false, false, false, false, false, false, false, false] HT_.out ?_
        refine pure_ (i := 11) (N := some 55) (v := undef) (a' := ?_) #[true, true, true, true, true, true, true, true, true, true, true, true, false, false, false, false, false, false, false] rfl rfl (any_of HT_.out (by kernel_rfl)) (fun _ _ _ h => h) (Or.inr ⟨by rfl, rfl⟩) ?_ ?_
        rotate_left
        ·simp only [Act.put, nrm]
         rfl
        refine pure_ (i := 12) (N := some 56) (v := undef) (a' := ?_) #[true, true, true, true, true, true, true, true, true, true, true, true, true, false, false, false, false, false, false] rfl rfl (any_of HT_.out (by kernel_rfl)) (fun _ _ _ h => h) (Or.inr ⟨by rfl, rfl⟩) ?_ ?_
        rotate_left
        ·simp only [Act.put, nrm]
         rfl
        refine pure_ (i := 13) (N := some 57) (v := undef) (a' := ?_) #[true, true, true, true, true, true, true, true, true, true, true, true, true, true, false, false, false, false, false] rfl rfl (any_of HT_.out (by kernel_rfl)) (fun _ _ _ h => h) (Or.inr ⟨by rfl, rfl⟩) ?_ ?_
        rotate_left
        ·simp only [Act.put, nrm]
         rfl
        refine pstep 14 (some 58) #[true, true, true, true, true, true, true, true, true, true, true, true, true, true, true, false, false, false, false] HT_.out ?_
        refine pstep 15 (some 59) #[true, true, true, true, true, true, true, true, true, true, true, true, true, true, true, true, false, false, false] HT_.out ?_
        refine pure_ (i := 16) (N := some 60) (v := undef) (a' := ?_) #[true, true, true, true, true, true, true, true, true, true, true, true, true, true, true, true, true, false, false] rfl rfl (any_of HT_.out (by kernel_rfl)) (fun _ _ _ h => h) (Or.inr ⟨by rfl, rfl⟩) ?_ ?_
        rotate_left
        ·simp only [Act.put, nrm]
         rfl
        refine pstep 17 (some 61) #[true, true, true, true, true, true, true, true, true, true, true, true, true, true, true, true, true, true, false] HT_.out ?_
        refine pstep 18 (some 4) #[true, true, true, true, true, true, true, true, true, true, true, true, true, true, true, true, true, true, true] HT_.out ?_
        refine done_ (done_of HT_.out (by kernel_rfl)) ?_
        try go_wp2
        go_ret
        exact ⟨by first | rfl | (simp [errW_none, errW_some] <;> rfl) | (simp [*, errW_none, errW_some] <;> rfl), by repeat (first | (with_reducible first | exact HB.out | apply below_alloc | apply pw_below_drewN | apply below_drew1 | refine below_set ?_ GE143.out | refine below_set ?_ GE150.out | refine below_set ?_ GE157.out) | exact HB.out)⟩
      ·rw [if_neg c31] at H
       have c31b0 : (t166 == t167) = false := by simpa using c31
       (try (have c31b1 : decide (t166 = t167) = false := by simpa using c31))
       (try (have c31b2 : (t166 == t167) = false := by simpa using c31))
       (try (have c31b3 : ¬ (t166 = t167) := by simpa using c31))
       clear c31
       obtain rfl := Option.some.inj H
       try go_wp2
       have n0_ := Aside0.mk (Kd.R_drew HO_9.out)
       have n1_ := Aside0.mk (Kd.R_drew HO_10.out)
       have n2_ := Aside0.mk (blk_drew BK143.out)
       have n3_ := Aside0.mk (blk_drew BK150.out)
       have n4_ := Aside0.mk (blk_drew BK157.out)
       have n5_ := Aside0.mk (below_drew1 HB.out)
       clear HO_9
       clear HO_10
       clear BK143
       clear BK150
       clear BK157
       clear HB
       have HO_9 := n0_
       have HO_10 := n1_
       have BK143 := n2_
       have BK150 := n3_
       have BK157 := n4_
       have HB := n5_
       clear n0_ n1_ n2_ n3_ n4_ n5_
       refine start_ (n := 19) (S := fun w' => w'.cell? ⟨gb143, 0, none⟩ = some (.int .i64 a0_0) ∧ w'.cell? ⟨gb143, 1, none⟩ = some (.int .i64 a0_1) ∧ w'.cell? ⟨gb143, 2, none⟩ = some (.int .i64 a0_2) ∧ w'.cell? ⟨gb143, 3, none⟩ = some (.int .i64 a0_3) ∧ w'.cell? ⟨gb143, 4, none⟩ = some (.bool a0_4)) (ds := []) #[false, false, false, false, false, false, false, false, false, false, false, false, false, false, false, false, false, false, false] (by kernel_rfl) rfl rfl ⟨(blk_cell BK143.out 0).trans rfl, (blk_cell BK143.out 1).trans rfl, (blk_cell BK143.out 2).trans rfl, (blk_cell BK143.out 3).trans rfl, (blk_cell BK143.out 4).trans rfl⟩ (fun hHeld => ?_); refine with_tabW signalbenchlaw04_CheckRight.tab11 signalbenchlaw04_CheckRight.bits11 (fun HT_ HW_ => ?_)
       generalize wr.drew = w45 at HO_9 HO_10 BK143 BK150 BK157 HB hHeld ⊢
       refine take_ (i := 0) (N := some 44) (v := ?_) (a' := ?_) #[true, false, false, false, false, false, false, false, false, false, false, false, false, false, false, false, false, false, false] rfl rfl (take_ofW HT_.out HW_.out (by kernel_rfl)) (fun _ _ _ h => h) (Or.inl ⟨by rfl, ?_⟩) hHeld ?_ ?_
       rotate_left
       ·rintro w' ⟨s0, s1, s2, s3, s4⟩
        go_simp
        with_reducible rfl
       rotate_left
       ·simp only [Act.put, nrm]
        rfl
       refine take_ (i := 2) (N := some 46) (v := ?_) (a' := ?_) #[true, false, true, false, false, false, false, false, false, false, false, false, false, false, false, false, false, false, false] rfl rfl (take_ofW HT_.out HW_.out (by kernel_rfl)) (fun _ _ _ h => h) (Or.inl ⟨by rfl, ?_⟩) hHeld ?_ ?_
       rotate_left
       ·rintro w' ⟨s0, s1, s2, s3, s4⟩
        go_simp
        with_reducible rfl
       rotate_left
       ·simp only [Act.put, nrm]
        rfl
       refine one_ (i := 1) (N := some 45) #[true, true, true, false, false, false, false, false, false, false, false, false, false, false, false, false, false, false, false] rfl rfl (one_of HT_.out (by kernel_rfl)) (by decide) (fun K hK => ?_)
       refine goes_ Tryd.func31 (by kernel_rfl) rfl #[.agg #[.int .i64 a0_0, .int .i64 a0_1, .int .i64 a0_2, .int .i64 a0_3, .bool a0_4]] (by rfl) rfl rfl (by (try simp only [List.map_toArray, List.map_cons, List.map_nil]); first | done | rfl | (simp only [List.length_drop, List.length_take]; rfl)) ?_
       with_reducible refine (check_Right.calls k2 a0_0 a0_1 a0_2 a0_3 a0_4 t166 _ A29.out).mono ?_
       rintro e w46 ⟨rfl, hb⟩
       refine ⟨_, rfl, ?_⟩
       have n0_ := Aside0.mk (Kd.R_below (rkw HO_9.out) hb)
       have n1_ := Aside0.mk (Kd.R_below (rkw HO_10.out) hb)
       have n2_ := Aside0.mk (blkb BK143.out hb)
       have n3_ := Aside0.mk (blkb BK150.out hb)
       have n4_ := Aside0.mk (blkb BK157.out hb)
       have n5_ := Aside0.mk (below_step (hbw HB.out) hb)
       clear HO_9
       clear HO_10
       clear BK143
       clear BK150
       clear BK157
       clear HB
       have HO_9 := n0_
       have HO_10 := n1_
       have BK143 := n2_
       have BK150 := n3_
       have BK157 := n4_
       have HB := n5_
       clear n0_ n1_ n2_ n3_ n4_ n5_
       (try clear hb)
       (try clear hb2)
       (try clear hk)
       (try clear hi)
       refine hK.out _ _ ⟨(blk_cell BK143.out 0).trans rfl, (blk_cell BK143.out 1).trans rfl, (blk_cell BK143.out 2).trans rfl, (blk_cell BK143.out 3).trans rfl, (blk_cell BK143.out 4).trans rfl⟩ (fun hHeld => ?_)
       clear hK K
       refine norm_ (a' := ?_) ?_ ?_
       rotate_left
       ·show Act.put _ (some 45) _ = _
        simp only [Act.put, nrm]
        rfl
       refine one_ (i := 3) (N := some 47) #[true, true, true, true, false, false, false, false, false, false, false, false, false, false, false, false, false, false, false] rfl rfl (one_of HT_.out (by kernel_rfl)) (by decide) (fun K hK => ?_)
       refine goes_ Tryd.func23 (by kernel_rfl) rfl #[.agg #[.int .i64 a0_0, .int .i64 a0_1, .int .i64 a0_2, .int .i64 a0_3, .bool a0_4]] (by rfl) rfl rfl (by (try simp only [List.map_toArray, List.map_cons, List.map_nil]); first | done | rfl | (simp only [List.length_drop, List.length_take]; rfl)) ?_
       with_reducible refine (signalbenchref04_Right.calls a0_0 a0_1 a0_2 a0_3 a0_4 t167 _ A30.out).mono ?_
       rintro e w47 ⟨rfl, hb⟩
       refine ⟨_, rfl, ?_⟩
       have n0_ := Aside0.mk (Kd.R_below (rkw HO_9.out) hb)
       have n1_ := Aside0.mk (Kd.R_below (rkw HO_10.out) hb)
       have n2_ := Aside0.mk (blkb BK143.out hb)
       have n3_ := Aside0.mk (blkb BK150.out hb)
       have n4_ := Aside0.mk (blkb BK157.out hb)
       have n5_ := Aside0.mk (below_step (hbw HB.out) hb)
       clear HO_9
       clear HO_10
       clear BK143
       clear BK150
       clear BK157
       clear HB
       have HO_9 := n0_
       have HO_10 := n1_
       have BK143 := n2_
       have BK150 := n3_
       have BK157 := n4_
       have HB := n5_
       clear n0_ n1_ n2_ n3_ n4_ n5_
       (try clear hb)
       (try clear hb2)
       (try clear hk)
       (try clear hi)
       refine hK.out _ _ ⟨(blk_cell BK143.out 0).trans rfl, (blk_cell BK143.out 1).trans rfl, (blk_cell BK143.out 2).trans rfl, (blk_cell BK143.out 3).trans rfl, (blk_cell BK143.out 4).trans rfl⟩ (fun hHeld => ?_)
       clear hK K
       refine norm_ (a' := ?_) ?_ ?_
       rotate_left
       ·show Act.put _ (some 47) _ = _
        simp only [Act.put, nrm]
        rfl
       refine pstep 4 (some 48) #[true, true, true, true, true, false, false, false, false, false, false, false, false, false, false, false, false, false, false] HT_.out ?_
       refine pstep 5 (some 49) #[true, true, true, true, true, true, false, false, false, false, false, false, false, false, false, false, false, false, false] HT_.out ?_
       refine pure_ (i := 6) (N := some 50) (v := undef) (a' := ?_) #[true, true, true, true, true, true, true, false, false, false, false, false, false, false, false, false, false, false, false] rfl rfl (any_of HT_.out (by kernel_rfl)) (fun _ _ _ h => h) (Or.inr ⟨by rfl, rfl⟩) ?_ ?_
       rotate_left
       ·simp only [Act.put, nrm]
        rfl
       refine pure_ (i := 7) (N := some 51) (v := undef) (a' := ?_) #[true, true, true, true, true, true, true, true, false, false, false, false, false, false, false, false, false, false, false] rfl rfl (any_of HT_.out (by kernel_rfl)) (fun _ _ _ h => h) (Or.inr ⟨by rfl, rfl⟩) ?_ ?_
       rotate_left
       ·simp only [Act.put, nrm]
        rfl
       refine pure_ (i := 8) (N := some 52) (v := undef) (a' := ?_) #[true, true, true, true, true, true, true, true, true, false, false, false, false, false, false, false, false, false, false] rfl rfl (any_of HT_.out (by kernel_rfl)) (fun _ _ _ h => h) (Or.inr ⟨by rfl, rfl⟩) ?_ ?_
       rotate_left
       ·simp only [Act.put, nrm]
        rfl
       refine pstep 9 (some 53) #[true, true, true, true, true, true, true, true, true, true, false, false, false, false, false, false, false, false, false] HT_.out ?_
       refine pstep 10 (some 54) #[true, true, true, true, true, true, true, true, true, true, true, false, false, false, false, false, false, false, false] HT_.out ?_
       refine pure_ (i := 11) (N := some 55) (v := undef) (a' := ?_) #[true, true, true, true, true, true, true, true, true, true, true, true, false, false, false, false, false, false, false] rfl rfl (any_of HT_.out (by kernel_rfl)) (fun _ _ _ h => h) (Or.inr ⟨by rfl, rfl⟩) ?_ ?_
       rotate_left
       ·simp only [Act.put, nrm]
        rfl
       refine pure_ (i := 12) (N := some 56) (v := undef) (a' := ?_) #[true, true, true, true, true, true, true, true, true, true, true, true, true, false, false, false, false, false, false] rfl rfl (any_of HT_.out (by kernel_rfl)) (fun _ _ _ h => h) (Or.inr ⟨by rfl, rfl⟩) ?_ ?_
       rotate_left
       ·simp only [Act.put, nrm]
        rfl
       refine pure_ (i := 13) (N := some 57) (v := undef) (a' := ?_) #[true, true, true, true, true, true, true, true, true, true, true, true, true, true, false, false, false, false, false] rfl rfl (any_of HT_.out (by kernel_rfl)) (fun _ _ _ h => h) (Or.inr ⟨by rfl, rfl⟩) ?_ ?_
       rotate_left
       ·simp only [Act.put, nrm]
        rfl
       refine pstep 14 (some 58) #[true, true, true, true, true, true, true, true, true, true, true, true, true, true, true, false, false, false, false] HT_.out ?_
       refine pstep 15 (some 59) #[true, true, true, true, true, true, true, true, true, true, true, true, true, true, true, true, false, false, false] HT_.out ?_
       refine pure_ (i := 16) (N := some 60) (v := undef) (a' := ?_) #[true, true, true, true, true, true, true, true, true, true, true, true, true, true, true, true, true, false, false] rfl rfl (any_of HT_.out (by kernel_rfl)) (fun _ _ _ h => h) (Or.inr ⟨by rfl, rfl⟩) ?_ ?_
       rotate_left
       ·simp only [Act.put, nrm]
        rfl
       refine pstep 17 (some 61) #[true, true, true, true, true, true, true, true, true, true, true, true, true, true, true, true, true, true, false] HT_.out ?_
       refine pstep 18 (some 4) #[true, true, true, true, true, true, true, true, true, true, true, true, true, true, true, true, true, true, true] HT_.out ?_
       refine done_ (done_of HT_.out (by kernel_rfl)) ?_
       try go_wp2
       go_ret
       exact ⟨by first | rfl | (simp [errW_none, errW_some] <;> rfl) | (simp [*, errW_none, errW_some] <;> rfl), by repeat (first | (with_reducible first | exact HB.out | apply below_alloc | apply pw_below_drewN | apply below_drew1 | refine below_set ?_ GE143.out | refine below_set ?_ GE150.out | refine below_set ?_ GE157.out) | exact HB.out)⟩

/-- THE ONE PURE STATEMENT of signalbenchlaw04_CheckRight: yours. -/
def signalbenchlaw04_CheckRight.Pure : Prop := ∀ (a0_0 : Int) (a0_1 : Int) (a0_2 : Int) (a0_3 : Int) (a0_4 : Bool) (a1 : ByteArray), (Lit.int .i64 a0_0).wf = true → (Lit.int .i64 a0_1).wf = true → (Lit.int .i64 a0_2).wf = true → (Lit.int .i64 a0_3).wf = true → a1.size ≤ 140737488351232 → ∃ k, signalbenchlaw04_CheckRight.f k a0_0 a0_1 a0_2 a0_3 a0_4 a1 = some true
theorem signalbenchlaw04_CheckRight.walk (P : signalbenchlaw04_CheckRight.Pure) (a0_0 : Int) (a0_1 : Int) (a0_2 : Int) (a0_3 : Int) (a0_4 : Bool) (a1 : ByteArray) (w : World) (hT_ : TabOk w)  (w0_ : (Lit.int .i64 a0_0).wf = true) (w1_ : (Lit.int .i64 a0_1).wf = true) (w2_ : (Lit.int .i64 a0_2).wf = true) (w3_ : (Lit.int .i64 a0_3).wf = true) (w4_ : a1.size ≤ 140737488351232) :
  Calls Tryd.prog 9 #[.agg #[.int .i64 a0_0, .int .i64 a0_1, .int .i64 a0_2, .int .i64 a0_3, .bool a0_4], .string a1] w fun e w' => e = .returned (.bool true) ∧ Below w.heap.size w w' := by
 obtain ⟨k, h⟩ := P a0_0 a0_1 a0_2 a0_3 a0_4 a1 w0_ w1_ w2_ w3_ w4_
 refine (signalbenchlaw04_CheckRight.calls k a0_0 a0_1 a0_2 a0_3 a0_4 a1 true w hT_  h).mono ?_
 rintro e w' ⟨rfl, hd⟩
 exact ⟨rfl, hd⟩

end Go.Proofs.YteeejopgaegaoaaDoor.PCheckRight
