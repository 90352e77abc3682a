-- Written by a program of this session (wip/tools/pr.py), which calls the kit's print with changes of its own.
import Derived.Test.YtgcifmaefoeobaaPScrambleDecodesx0
import Derived.Test.YtgcifmaefoeobaaPScrambleDecodesx8
namespace Go.Proofs.Ytgcifmaefoeobaa.PScrambleDecodes
open Go.RowKit Go.Proofs.YtgcifmaefoeobaaW.PrintWords Go.Proofs.YtgcifmaefoeobaaW.PrintLast Go.Proofs.YtgcifmaefoeobaaW.PrintMore
attribute [local go_sem] max2_int min2_int max_two min_two max_three min_three max_four min_four   -- for this text's walks alone
set_option linter.unusedVariables false
set_option linter.unusedSimpArgs false

/-! ### signalbenchref20_Step: function 18 -/
mutual
def signalbenchref20_Step.j0 : Nat → Bool → Int → Int → Int → Int → Int → Int → Int → Int → Int → ByteArray → Int → Int → Int → Int → Int → ByteArray → Int → Option (Int × Int × Int × Int × Int × Int × Int × ByteArray × (List (S27)))
 | 0, _, _, _, _, _, _, _, _, _, _, _, _, _, _, _, _, _, _ => none
 | k + 1, x32, x224000, x224001, x225000, x225001, x225002, x225003, x225004, x225005, x225006, x225007, x226000, x226001, x226002, x226003, x226004, x226005, x226006 => if x32 = true then (some (x225000, x225001, x225002, x225003, x225004, x225005, x225006, x225007, ([] : List (S27)))) else (if x225000 = 1 then (signalbenchref20_Step.j1 k (decide (x226001 < x225002)) x224000 x224001 x225000 x225001 x225002 x225003 x225004 x225005 x225006 x225007 x226000 x226001 x226002 x226003 x226004 x226005 x226006) else (signalbenchref20_Step.j1 k false x224000 x224001 x225000 x225001 x225002 x225003 x225004 x225005 x225006 x225007 x226000 x226001 x226002 x226003 x226004 x226005 x226006))
def signalbenchref20_Step.j1 : Nat → Bool → Int → Int → Int → Int → Int → Int → Int → Int → Int → ByteArray → Int → Int → Int → Int → Int → ByteArray → Int → Option (Int × Int × Int × Int × Int × Int × Int × ByteArray × (List (S27)))
 | 0, _, _, _, _, _, _, _, _, _, _, _, _, _, _, _, _, _, _ => none
 | k + 1, x43, x224000, x224001, x225000, x225001, x225002, x225003, x225004, x225005, x225006, x225007, x226000, x226001, x226002, x226003, x226004, x226005, x226006 => if x43 = true then (some (x225000, x225001, x225002, x225003, x225004, x225005, x225006, x225007, ([] : List (S27)))) else ((signalbenchref20_insert.f k x224000 x224001 x225004 x226003).bind fun t230 => ((signalbenchref20_parity.f k x224000 x224001 x225004).bind fun t232 => (some (1, x225001, x226001, x225003, t230, x225005, x225006, x225007, (([(⟨x226000, x226001, x226002, Int.tmod (wrap64 (x226003 + t232)) 2, x226004, x226005, x226006⟩ : S27)] : List (S27)))))))
end
def signalbenchref20_Step.f (k : Nat) (a0_0 : Int) (a0_1 : Int) (a1_0 : Int) (a1_1 : Int) (a1_2 : Int) (a1_3 : Int) (a1_4 : Int) (a1_5 : Int) (a1_6 : Int) (a1_7 : ByteArray) (a2_0 : Int) (a2_1 : Int) (a2_2 : Int) (a2_3 : Int) (a2_4 : Int) (a2_5 : ByteArray) (a2_6 : Int) : Option (Int × Int × Int × Int × Int × Int × Int × ByteArray × (List (S27))) := (signalbenchref20_Check.f k a0_0 a0_1).bind fun t227 => (if t227 = 0 then ((signalbenchref07_Valid.f a2_0 a2_1 a2_2 a2_3 a2_4 a2_5 a2_6).bind fun t228 => (if t228 = true then (if a2_0 = 2 then (if a2_3 < 0 then (signalbenchref20_Step.j0 k true a0_0 a0_1 a1_0 a1_1 a1_2 a1_3 a1_4 a1_5 a1_6 a1_7 a2_0 a2_1 a2_2 a2_3 a2_4 a2_5 a2_6) else (signalbenchref20_Step.j0 k (decide (a2_3 > 1)) a0_0 a0_1 a1_0 a1_1 a1_2 a1_3 a1_4 a1_5 a1_6 a1_7 a2_0 a2_1 a2_2 a2_3 a2_4 a2_5 a2_6)) else (signalbenchref20_Step.j0 k true a0_0 a0_1 a1_0 a1_1 a1_2 a1_3 a1_4 a1_5 a1_6 a1_7 a2_0 a2_1 a2_2 a2_3 a2_4 a2_5 a2_6)) else (signalbenchref20_Step.j0 k true a0_0 a0_1 a1_0 a1_1 a1_2 a1_3 a1_4 a1_5 a1_6 a1_7 a2_0 a2_1 a2_2 a2_3 a2_4 a2_5 a2_6))) else (signalbenchref20_Step.j0 k true a0_0 a0_1 a1_0 a1_1 a1_2 a1_3 a1_4 a1_5 a1_6 a1_7 a2_0 a2_1 a2_2 a2_3 a2_4 a2_5 a2_6))
theorem signalbenchref20_Step.mono_l : ∀ k, (∀ y0 y1 y2 y3 y4 y5 y6 y7 y8 y9 y10 y11 y12 y13 y14 y15 y16 y17, LeO (signalbenchref20_Step.j0 k y0 y1 y2 y3 y4 y5 y6 y7 y8 y9 y10 y11 y12 y13 y14 y15 y16 y17) (signalbenchref20_Step.j0 (k + 1) y0 y1 y2 y3 y4 y5 y6 y7 y8 y9 y10 y11 y12 y13 y14 y15 y16 y17)) ∧ (∀ y0 y1 y2 y3 y4 y5 y6 y7 y8 y9 y10 y11 y12 y13 y14 y15 y16 y17, LeO (signalbenchref20_Step.j1 k y0 y1 y2 y3 y4 y5 y6 y7 y8 y9 y10 y11 y12 y13 y14 y15 y16 y17) (signalbenchref20_Step.j1 (k + 1) y0 y1 y2 y3 y4 y5 y6 y7 y8 y9 y10 y11 y12 y13 y14 y15 y16 y17))
 | 0 => ⟨fun _ _ _ _ _ _ _ _ _ _ _ _ _ _ _ _ _ _ r h => by simp [signalbenchref20_Step.j0] at h, fun _ _ _ _ _ _ _ _ _ _ _ _ _ _ _ _ _ _ r h => by simp [signalbenchref20_Step.j1] at h⟩
 | k + 1 => by
  obtain ⟨ih0, ih1⟩ := signalbenchref20_Step.mono_l k
  refine ⟨?_, ?_⟩
  ·intro y0 y1 y2 y3 y4 y5 y6 y7 y8 y9 y10 y11 y12 y13 y14 y15 y16 y17
   unfold signalbenchref20_Step.j0
   repeat' first
   | (with_reducible exact ih0 _ _ _ _ _ _ _ _ _ _ _ _ _ _ _ _ _ _)
   | (with_reducible exact ih1 _ _ _ _ _ _ _ _ _ _ _ _ _ _ _ _ _ _)
   | (with_reducible exact signalbenchref20_Check.mono _ _ _)
   | (with_reducible exact signalbenchref20_insert.mono _ _ _ _ _)
   | (with_reducible exact signalbenchref20_parity.mono _ _ _ _)
   | (with_reducible exact LeO.refl _)
   | (with_reducible exact LeO.none _)
   | (with_reducible refine LeO.ite ?_ ?_)
   | (with_reducible refine LeO.bind ?_ (fun _ => ?_))
   | exact ih0 _ _ _ _ _ _ _ _ _ _ _ _ _ _ _ _ _ _
   | exact ih1 _ _ _ _ _ _ _ _ _ _ _ _ _ _ _ _ _ _
   | exact signalbenchref20_Check.mono _ _ _
   | exact signalbenchref20_insert.mono _ _ _ _ _
   | exact signalbenchref20_parity.mono _ _ _ _
   | exact LeO.none _
   | refine LeO.ite ?_ ?_
   | refine LeO.bind ?_ (fun _ => ?_)
  ·intro y0 y1 y2 y3 y4 y5 y6 y7 y8 y9 y10 y11 y12 y13 y14 y15 y16 y17
   unfold signalbenchref20_Step.j1
   repeat' first
   | (with_reducible exact ih0 _ _ _ _ _ _ _ _ _ _ _ _ _ _ _ _ _ _)
   | (with_reducible exact ih1 _ _ _ _ _ _ _ _ _ _ _ _ _ _ _ _ _ _)
   | (with_reducible exact signalbenchref20_Check.mono _ _ _)
   | (with_reducible exact signalbenchref20_insert.mono _ _ _ _ _)
   | (with_reducible exact signalbenchref20_parity.mono _ _ _ _)
   | (with_reducible exact LeO.refl _)
   | (with_reducible exact LeO.none _)
   | (with_reducible refine LeO.ite ?_ ?_)
   | (with_reducible refine LeO.bind ?_ (fun _ => ?_))
   | exact ih0 _ _ _ _ _ _ _ _ _ _ _ _ _ _ _ _ _ _
   | exact ih1 _ _ _ _ _ _ _ _ _ _ _ _ _ _ _ _ _ _
   | exact signalbenchref20_Check.mono _ _ _
   | exact signalbenchref20_insert.mono _ _ _ _ _
   | exact signalbenchref20_parity.mono _ _ _ _
   | exact LeO.none _
   | refine LeO.ite ?_ ?_
   | refine LeO.bind ?_ (fun _ => ?_)
theorem signalbenchref20_Step.mono : ∀ a0 a1 a2 a3 a4 a5 a6 a7 a8 a9 a10 a11 a12 a13 a14 a15 a16 k, LeO (signalbenchref20_Step.f k a0 a1 a2 a3 a4 a5 a6 a7 a8 a9 a10 a11 a12 a13 a14 a15 a16) (signalbenchref20_Step.f (k + 1) a0 a1 a2 a3 a4 a5 a6 a7 a8 a9 a10 a11 a12 a13 a14 a15 a16) := by
 intro a0 a1 a2 a3 a4 a5 a6 a7 a8 a9 a10 a11 a12 a13 a14 a15 a16 k
 obtain ⟨ih0, ih1⟩ := signalbenchref20_Step.mono_l k
 unfold signalbenchref20_Step.f
 repeat' first
   | (with_reducible exact ih0 _ _ _ _ _ _ _ _ _ _ _ _ _ _ _ _ _ _)
   | (with_reducible exact ih1 _ _ _ _ _ _ _ _ _ _ _ _ _ _ _ _ _ _)
   | (with_reducible exact signalbenchref20_Check.mono _ _ _)
   | (with_reducible exact signalbenchref20_insert.mono _ _ _ _ _)
   | (with_reducible exact signalbenchref20_parity.mono _ _ _ _)
   | (with_reducible exact LeO.refl _)
   | (with_reducible exact LeO.none _)
   | (with_reducible refine LeO.ite ?_ ?_)
   | (with_reducible refine LeO.bind ?_ (fun _ => ?_))
   | exact ih0 _ _ _ _ _ _ _ _ _ _ _ _ _ _ _ _ _ _
   | exact ih1 _ _ _ _ _ _ _ _ _ _ _ _ _ _ _ _ _ _
   | exact signalbenchref20_Check.mono _ _ _
   | exact signalbenchref20_insert.mono _ _ _ _ _
   | exact signalbenchref20_parity.mono _ _ _ _
   | exact LeO.none _
   | refine LeO.ite ?_ ?_
   | refine LeO.bind ?_ (fun _ => ?_)
def signalbenchref20_Step.T10 : Bool × List (List Nat × List Nat) := (true, [([], []), ([0], [0]), ([], []), ([], []), ([3], [3]), ([2, 4], [2, 4]), ([1, 5], [1, 5]), ([6], [6]), ([0, 1, 2, 3, 4, 5, 6, 7], []), ([8, 7, 5, 0, 1, 2, 3, 4, 5, 6, 7], [7, 8])])
def signalbenchref20_Step.B10 : List Nat := [0, 1, 0, 0, 8, 28, 63, 127, 255, 511]
theorem signalbenchref20_Step.tab10 : rtab .any (opsOf Try.f18 10) = signalbenchref20_Step.T10 := by kernel_rfl
theorem signalbenchref20_Step.bits10 : waitsOk signalbenchref20_Step.T10.2 signalbenchref20_Step.B10 = true := by kernel_rfl
def signalbenchref20_Step.T11 : Bool × List (List Nat × List Nat) := (true, [([], []), ([], []), ([1], [1]), ([0, 0], [0]), ([2, 3, 0, 1, 2, 3], [2])])
def signalbenchref20_Step.B11 : List Nat := [0, 0, 2, 1, 15]
theorem signalbenchref20_Step.tab11 : rtab .any (opsOf Try.f18 11) = signalbenchref20_Step.T11 := by kernel_rfl
theorem signalbenchref20_Step.bits11 : waitsOk signalbenchref20_Step.T11.2 signalbenchref20_Step.B11 = true := by kernel_rfl
set_option maxHeartbeats 8000000 in
set_option maxRecDepth 100000 in
theorem signalbenchref20_Step.calls (k : Nat) (a0_0 : Int) (a0_1 : Int) (a1_0 : Int) (a1_1 : Int) (a1_2 : Int) (a1_3 : Int) (a1_4 : Int) (a1_5 : Int) (a1_6 : Int) (a1_7 : ByteArray) (a2_0 : Int) (a2_1 : Int) (a2_2 : Int) (a2_3 : Int) (a2_4 : Int) (a2_5 : ByteArray) (a2_6 : Int) (r1 : Int) (r2 : Int) (r3 : Int) (r4 : Int) (r5 : Int) (r6 : Int) (r7 : Int) (r8 : ByteArray) (r9 : List (S27)) (w : World) (h : signalbenchref20_Step.f k a0_0 a0_1 a1_0 a1_1 a1_2 a1_3 a1_4 a1_5 a1_6 a1_7 a2_0 a2_1 a2_2 a2_3 a2_4 a2_5 a2_6 = some (r1, r2, r3, r4, r5, r6, r7, r8, r9)) :
  Calls Try.prog 18 #[.agg #[.int .i64 a0_0, .int .i64 a0_1], .agg #[.int .i64 a1_0, .int .i64 a1_1, .int .i64 a1_2, .int .i64 a1_3, .int .i64 a1_4, .int .i64 a1_5, .int .i64 a1_6, .string a1_7], .agg #[.int .i64 a2_0, .int .i64 a2_1, .int .i64 a2_2, .int .i64 a2_3, .int .i64 a2_4, .string a2_5, .int .i64 a2_6]] w fun e w' => ∃ v8_ : Value, e = .returned (.tuple #[.agg #[.int .i64 r1, .int .i64 r2, .int .i64 r3, .int .i64 r4, .int .i64 r5, .int .i64 r6, .int .i64 r7, .string r8], v8_]) ∧ Kd.R k27 27 w' w.heap.size (fun _ => True) v8_ r9 ∧ Below w.heap.size w w' := by
 have hu23 := Try.underlying23
 have hu25 := Try.underlying25
 have hu27 := Try.underlying27
 have HB := Aside0.mk (Below.refl w.heap.size w)
 have H : ((signalbenchref20_Check.f k a0_0 a0_1).bind fun t227 => (if t227 = 0 then ((signalbenchref07_Valid.f a2_0 a2_1 a2_2 a2_3 a2_4 a2_5 a2_6).bind fun t228 => (if t228 = true then (if a2_0 = 2 then (if a2_3 < 0 then (signalbenchref20_Step.j0 k true a0_0 a0_1 a1_0 a1_1 a1_2 a1_3 a1_4 a1_5 a1_6 a1_7 a2_0 a2_1 a2_2 a2_3 a2_4 a2_5 a2_6) else (signalbenchref20_Step.j0 k (decide (a2_3 > 1)) a0_0 a0_1 a1_0 a1_1 a1_2 a1_3 a1_4 a1_5 a1_6 a1_7 a2_0 a2_1 a2_2 a2_3 a2_4 a2_5 a2_6)) else (signalbenchref20_Step.j0 k true a0_0 a0_1 a1_0 a1_1 a1_2 a1_3 a1_4 a1_5 a1_6 a1_7 a2_0 a2_1 a2_2 a2_3 a2_4 a2_5 a2_6)) else (signalbenchref20_Step.j0 k true a0_0 a0_1 a1_0 a1_1 a1_2 a1_3 a1_4 a1_5 a1_6 a1_7 a2_0 a2_1 a2_2 a2_3 a2_4 a2_5 a2_6))) else (signalbenchref20_Step.j0 k true a0_0 a0_1 a1_0 a1_1 a1_2 a1_3 a1_4 a1_5 a1_6 a1_7 a2_0 a2_1 a2_2 a2_3 a2_4 a2_5 a2_6))) = some (r1, r2, r3, r4, r5, r6, r7, r8, r9) := h
 clear h
 have HC4 := Aside0.mk H
 clear H
 go_enter Try.func18, Try.ntmps18
 go_upto_region 1 with (first | ((with_reducible refine gate_dst (N := 3) rfl ?_); refine box_event ?hg (N := 3) ?hd (cs := #[.int .i64 a0_0, .int .i64 a0_1]) (t := 23) ?hr ?_; (case hd => rfl); (case hg => rfl); (case hr => first | (go_simp; done) | (go_simp; rfl)); intro gb223 hg w5 hbox hb; have n0_ := Aside0.mk (below_step (hbw HB.out) hb); have n1_ := Aside0.mk (hbox); have n2_ := Aside0.mk ((by rw [hg]; exact (below_size (hbw HB.out)) : w.heap.size ≤ gb223)); have n3_ := Aside0.mk ((by rw [hg]; exact (below_size (hbw HB.out)) : w.heap.size ≤ gb223)); clear HB; have HB := n0_; have BK223 := n1_; have GW223 := n2_; have GE223 := n3_; clear n0_ n1_ n2_ n3_; clear hb hbox hg) | ((with_reducible refine gate_dst (N := 4) rfl ?_); refine box_event ?hg (N := 4) ?hd (cs := #[.int .i64 a1_0, .int .i64 a1_1, .int .i64 a1_2, .int .i64 a1_3, .int .i64 a1_4, .int .i64 a1_5, .int .i64 a1_6, .string a1_7]) (t := 25) ?hr ?_; (case hd => rfl); (case hg => rfl); (case hr => first | (go_simp; done) | (go_simp; rfl)); intro gb224 hg w6 hbox hb; have n0_ := Aside0.mk (blkb BK223.out hb); have n1_ := Aside0.mk (below_step (hbw HB.out) hb); have n2_ := Aside0.mk (hbox); have n3_ := Aside0.mk ((by rw [hg]; exact (below_size (hbw HB.out)) : w.heap.size ≤ gb224)); have n4_ := Aside0.mk ((by rw [hg]; exact (below_size (hbw HB.out)) : w.heap.size ≤ gb224)); have n5_ := Aside0.mk ((by rw [hg]; exact Nat.ne_of_lt (blkl BK223.out) : gb223 ≠ gb224)); have n6_ := Aside0.mk ((by rw [hg]; exact Nat.ne_of_gt (blkl BK223.out) : gb224 ≠ gb223)); clear BK223; clear HB; have BK223 := n0_; have HB := n1_; have BK224 := n2_; have GW224 := n3_; have GE224 := n4_; have NB223_224 := n5_; have NB224_223 := n6_; clear n0_ n1_ n2_ n3_ n4_ n5_ n6_; clear hb hbox hg) | ((with_reducible refine gate_dst (N := 5) rfl ?_); refine box_event ?hg (N := 5) ?hd (cs := #[.int .i64 a2_0, .int .i64 a2_1, .int .i64 a2_2, .int .i64 a2_3, .int .i64 a2_4, .string a2_5, .int .i64 a2_6]) (t := 27) ?hr ?_; (case hd => rfl); (case hg => rfl); (case hr => first | (go_simp; done) | (go_simp; rfl)); intro gb225 hg w7 hbox hb; have n0_ := Aside0.mk (blkb BK223.out hb); have n1_ := Aside0.mk (blkb BK224.out hb); have n2_ := Aside0.mk (below_step (hbw HB.out) hb); have n3_ := Aside0.mk (hbox); have n4_ := Aside0.mk ((by rw [hg]; exact (below_size (hbw HB.out)) : w.heap.size ≤ gb225)); have n5_ := Aside0.mk ((by rw [hg]; exact (below_size (hbw HB.out)) : w.heap.size ≤ gb225)); have n6_ := Aside0.mk ((by rw [hg]; exact Nat.ne_of_lt (blkl BK223.out) : gb223 ≠ gb225)); have n7_ := Aside0.mk ((by rw [hg]; exact Nat.ne_of_gt (blkl BK223.out) : gb225 ≠ gb223)); have n8_ := Aside0.mk ((by rw [hg]; exact Nat.ne_of_lt (blkl BK224.out) : gb224 ≠ gb225)); have n9_ := Aside0.mk ((by rw [hg]; exact Nat.ne_of_gt (blkl BK224.out) : gb225 ≠ gb224)); clear BK223; clear BK224; clear HB; have BK223 := n0_; have BK224 := n1_; have HB := n2_; have BK225 := n3_; have GW225 := n4_; have GE225 := n5_; have NB223_225 := n6_; have NB225_223 := n7_; have NB224_225 := n8_; have NB225_224 := n9_; clear n0_ n1_ n2_ n3_ n4_ n5_ n6_ n7_ n8_ n9_; clear hb hbox hg) | ((with_reducible refine gate_dst (N := 6) rfl ?_); refine box_event ?hg (N := 6) ?hd (cs := #[.int .i64 0, .int .i64 0, .int .i64 0, .int .i64 0, .int .i64 0, .int .i64 0, .int .i64 0, .string (⟨#[]⟩ : ByteArray)]) (t := 25) ?hr ?_; (case hd => rfl); (case hg => rfl); (case hr => first | (go_simp; done) | (go_simp; rfl)); intro gb226 hg w8 hbox hb; have n0_ := Aside0.mk (blkb BK223.out hb); have n1_ := Aside0.mk (blkb BK224.out hb); have n2_ := Aside0.mk (blkb BK225.out hb); have n3_ := Aside0.mk (below_step (hbw HB.out) hb); have n4_ := Aside0.mk (hbox); have n5_ := Aside0.mk ((by rw [hg]; exact (below_size (hbw HB.out)) : w.heap.size ≤ gb226)); have n6_ := Aside0.mk ((by rw [hg]; exact (below_size (hbw HB.out)) : w.heap.size ≤ gb226)); have n7_ := Aside0.mk ((by rw [hg]; exact Nat.ne_of_lt (blkl BK223.out) : gb223 ≠ gb226)); have n8_ := Aside0.mk ((by rw [hg]; exact Nat.ne_of_gt (blkl BK223.out) : gb226 ≠ gb223)); have n9_ := Aside0.mk ((by rw [hg]; exact Nat.ne_of_lt (blkl BK224.out) : gb224 ≠ gb226)); have n10_ := Aside0.mk ((by rw [hg]; exact Nat.ne_of_gt (blkl BK224.out) : gb226 ≠ gb224)); have n11_ := Aside0.mk ((by rw [hg]; exact Nat.ne_of_lt (blkl BK225.out) : gb225 ≠ gb226)); have n12_ := Aside0.mk ((by rw [hg]; exact Nat.ne_of_gt (blkl BK225.out) : gb226 ≠ gb225)); clear BK223; clear BK224; clear BK225; clear HB; have BK223 := n0_; have BK224 := n1_; have BK225 := n2_; have HB := n3_; have BK226 := n4_; have GW226 := n5_; have GE226 := n6_; have NB223_226 := n7_; have NB226_223 := n8_; have NB224_226 := n9_; have NB226_224 := n10_; have NB225_226 := n11_; have NB226_225 := n12_; clear n0_ n1_ n2_ n3_ n4_ n5_ n6_ n7_ n8_ n9_ n10_ n11_ n12_; clear hb hbox hg))
 (try simp only [Act.put, List.setIfInBounds_toArray, List.set_cons_zero, List.set_cons_succ])
 go_cut [32] (fun v32 wc => ∃ (kq : Nat) (x32_3 : Bool), v32 = .bool x32_3 ∧ Aside0 (signalbenchref20_Step.j0 kq x32_3 a0_0 a0_1 a1_0 a1_1 a1_2 a1_3 a1_4 a1_5 a1_6 a1_7 a2_0 a2_1 a2_2 a2_3 a2_4 a2_5 a2_6 = some (r1, r2, r3, r4, r5, r6, r7, r8, r9)) ∧ Aside0 (kq ≤ k) ∧ Aside0 (wc.heap[gb223]? = some (.cells #[.int .i64 a0_0, .int .i64 a0_1] 23 (0, 0))) ∧ Aside0 (wc.heap[gb224]? = some (.cells #[.int .i64 a1_0, .int .i64 a1_1, .int .i64 a1_2, .int .i64 a1_3, .int .i64 a1_4, .int .i64 a1_5, .int .i64 a1_6, .string a1_7] 25 (0, 0))) ∧ Aside0 (wc.heap[gb225]? = some (.cells #[.int .i64 a2_0, .int .i64 a2_1, .int .i64 a2_2, .int .i64 a2_3, .int .i64 a2_4, .string a2_5, .int .i64 a2_6] 27 (0, 0))) ∧ Aside0 (wc.heap[gb226]? = some (.cells #[.int .i64 0, .int .i64 0, .int .i64 0, .int .i64 0, .int .i64 0, .int .i64 0, .int .i64 0, .string (⟨#[]⟩ : ByteArray)] 25 (0, 0))) ∧ Aside0 (Below w.heap.size w wc))
 case first =>
  have H := HC4.out
  clear HC4
  replace H := Option.bind_eq_some_iff.mp H
  obtain ⟨t227, A90, H⟩ := H
  replace H : (if t227 = 0 then ((signalbenchref07_Valid.f a2_0 a2_1 a2_2 a2_3 a2_4 a2_5 a2_6).bind fun t228 => (if t228 = true then (if a2_0 = 2 then (if a2_3 < 0 then (signalbenchref20_Step.j0 k true a0_0 a0_1 a1_0 a1_1 a1_2 a1_3 a1_4 a1_5 a1_6 a1_7 a2_0 a2_1 a2_2 a2_3 a2_4 a2_5 a2_6) else (signalbenchref20_Step.j0 k (decide (a2_3 > 1)) a0_0 a0_1 a1_0 a1_1 a1_2 a1_3 a1_4 a1_5 a1_6 a1_7 a2_0 a2_1 a2_2 a2_3 a2_4 a2_5 a2_6)) else (signalbenchref20_Step.j0 k true a0_0 a0_1 a1_0 a1_1 a1_2 a1_3 a1_4 a1_5 a1_6 a1_7 a2_0 a2_1 a2_2 a2_3 a2_4 a2_5 a2_6)) else (signalbenchref20_Step.j0 k true a0_0 a0_1 a1_0 a1_1 a1_2 a1_3 a1_4 a1_5 a1_6 a1_7 a2_0 a2_1 a2_2 a2_3 a2_4 a2_5 a2_6))) else (signalbenchref20_Step.j0 k true a0_0 a0_1 a1_0 a1_1 a1_2 a1_3 a1_4 a1_5 a1_6 a1_7 a2_0 a2_1 a2_2 a2_3 a2_4 a2_5 a2_6)) = some (r1, r2, r3, r4, r5, r6, r7, r8, r9) := H
  have A9 := Aside0.mk A90
  clear A90
  by_cases c10 : t227 = 0
  ·rw [if_pos c10] at H
   have c10b0 : (t227 == 0) = true := beq_iff_eq.mpr c10
   have c10b1 : (t227 != 0) = false := bne_eq_false_iff_eq.mpr c10
   clear c10
   (first | rw [c10b0] | (simp only [i64_w, i32_w]; rw [c10b0]) | skip)
   replace H := Option.bind_eq_some_iff.mp H
   obtain ⟨t228, A110, H⟩ := H
   replace H : (if t228 = true then (if a2_0 = 2 then (if a2_3 < 0 then (signalbenchref20_Step.j0 k true a0_0 a0_1 a1_0 a1_1 a1_2 a1_3 a1_4 a1_5 a1_6 a1_7 a2_0 a2_1 a2_2 a2_3 a2_4 a2_5 a2_6) else (signalbenchref20_Step.j0 k (decide (a2_3 > 1)) a0_0 a0_1 a1_0 a1_1 a1_2 a1_3 a1_4 a1_5 a1_6 a1_7 a2_0 a2_1 a2_2 a2_3 a2_4 a2_5 a2_6)) else (signalbenchref20_Step.j0 k true a0_0 a0_1 a1_0 a1_1 a1_2 a1_3 a1_4 a1_5 a1_6 a1_7 a2_0 a2_1 a2_2 a2_3 a2_4 a2_5 a2_6)) else (signalbenchref20_Step.j0 k true a0_0 a0_1 a1_0 a1_1 a1_2 a1_3 a1_4 a1_5 a1_6 a1_7 a2_0 a2_1 a2_2 a2_3 a2_4 a2_5 a2_6)) = some (r1, r2, r3, r4, r5, r6, r7, r8, r9) := H
   have A11 := Aside0.mk A110
   clear A110
   by_cases c12 : t228 = true
   ·subst c12
    have H1 : (if a2_0 = 2 then (if a2_3 < 0 then (signalbenchref20_Step.j0 k true a0_0 a0_1 a1_0 a1_1 a1_2 a1_3 a1_4 a1_5 a1_6 a1_7 a2_0 a2_1 a2_2 a2_3 a2_4 a2_5 a2_6) else (signalbenchref20_Step.j0 k (decide (a2_3 > 1)) a0_0 a0_1 a1_0 a1_1 a1_2 a1_3 a1_4 a1_5 a1_6 a1_7 a2_0 a2_1 a2_2 a2_3 a2_4 a2_5 a2_6)) else (signalbenchref20_Step.j0 k true a0_0 a0_1 a1_0 a1_1 a1_2 a1_3 a1_4 a1_5 a1_6 a1_7 a2_0 a2_1 a2_2 a2_3 a2_4 a2_5 a2_6)) = some (r1, r2, r3, r4, r5, r6, r7, r8, r9) := by rw [if_pos rfl] at H; exact H
    clear H
    have H := H1
    clear H1
    by_cases c13 : a2_0 = 2
    ·rw [if_pos c13] at H
     have c13b0 : (a2_0 == 2) = true := beq_iff_eq.mpr c13
     have c13b1 : (a2_0 != 2) = false := bne_eq_false_iff_eq.mpr c13
     clear c13
     by_cases c14 : a2_3 < 0
     ·rw [if_pos c14] at H
      have c14b0 : decide (a2_3 < 0) = true := decide_eq_true c14
      clear c14
      have H' := Aside0.mk H
      clear H
      have hnb15 := NB223_224.out
      have hnc15 := NB224_223.out
      have hnb16 := NB223_225.out
      have hnc16 := NB225_223.out
      have hnb17 := NB223_226.out
      have hnc17 := NB226_223.out
      have hcz18_0 : w8.cell? ⟨gb223, 0, none⟩ = some (.int .i64 a0_0) := (blk_cell BK223.out 0).trans rfl
      have hcz18_1 : w8.cell? ⟨gb223, 1, none⟩ = some (.int .i64 a0_1) := (blk_cell BK223.out 1).trans rfl
      have hfz18_0 := blk_frozen BK223.out 0
      have hfz18_1 := blk_frozen BK223.out 1
      go_wp2_with (first | ((with_reducible refine gate_callee (f := 10) rfl ?_); refine goesL_ (some 11) rfl rfl Try.func10 (by kernel_rfl) rfl #[.agg #[.int .i64 a0_0, .int .i64 a0_1]] rfl (by (try simp only [List.map_toArray, List.map_cons, List.map_nil]); first | done | rfl | (simp only [List.length_drop, List.length_take]; rfl)) ?_; (with_reducible refine (signalbenchref20_Check.calls k a0_0 a0_1 t227 _ A9.out).mono ?_); rintro e w19 ⟨rfl, hb⟩; refine ⟨_, rfl, ?_⟩; have n0_ := Aside0.mk (blkb BK223.out hb); have n1_ := Aside0.mk (blkb BK224.out hb); have n2_ := Aside0.mk (blkb BK225.out hb); have n3_ := Aside0.mk (blkb BK226.out hb); have n4_ := Aside0.mk (below_step (hbw HB.out) hb); clear BK223; clear BK224; clear BK225; clear BK226; clear HB; have BK223 := n0_; have BK224 := n1_; have BK225 := n2_; have BK226 := n3_; have HB := n4_; clear n0_ n1_ n2_ n3_ n4_; (try clear hb); (try clear hb2); (try clear hk); (try clear hi); have hnb20 := NB225_224.out; have hnc20 := NB224_225.out; have hnb21 := NB225_226.out; have hnc21 := NB226_225.out; have hcz22_0 : w19.cell? ⟨gb225, 0, none⟩ = some (.int .i64 a2_0) := (blk_cell BK225.out 0).trans rfl; have hcz22_1 : w19.cell? ⟨gb225, 1, none⟩ = some (.int .i64 a2_1) := (blk_cell BK225.out 1).trans rfl; have hcz22_2 : w19.cell? ⟨gb225, 2, none⟩ = some (.int .i64 a2_2) := (blk_cell BK225.out 2).trans rfl; have hcz22_3 : w19.cell? ⟨gb225, 3, none⟩ = some (.int .i64 a2_3) := (blk_cell BK225.out 3).trans rfl; have hcz22_4 : w19.cell? ⟨gb225, 4, none⟩ = some (.int .i64 a2_4) := (blk_cell BK225.out 4).trans rfl; have hcz22_5 : w19.cell? ⟨gb225, 5, none⟩ = some (.string a2_5) := (blk_cell BK225.out 5).trans rfl; have hcz22_6 : w19.cell? ⟨gb225, 6, none⟩ = some (.int .i64 a2_6) := (blk_cell BK225.out 6).trans rfl; have hfz22_0 := blk_frozen BK225.out 0; have hfz22_1 := blk_frozen BK225.out 1; have hfz22_2 := blk_frozen BK225.out 2; have hfz22_3 := blk_frozen BK225.out 3; have hfz22_4 := blk_frozen BK225.out 4; have hfz22_5 := blk_frozen BK225.out 5; have hfz22_6 := blk_frozen BK225.out 6) | (go_at_call 32; (with_reducible refine (signalbenchref07_Valid.calls a2_0 a2_1 a2_2 a2_3 a2_4 a2_5 a2_6 true _ A11.out).mono ?_); rintro e w23 ⟨rfl, hb⟩; have n0_ := Aside0.mk (blkb BK223.out hb); have n1_ := Aside0.mk (blkb BK224.out hb); have n2_ := Aside0.mk (blkb BK225.out hb); have n3_ := Aside0.mk (blkb BK226.out hb); have n4_ := Aside0.mk (below_step (hbw HB.out) hb); clear BK223; clear BK224; clear BK225; clear BK226; clear HB; have BK223 := n0_; have BK224 := n1_; have BK225 := n2_; have BK226 := n3_; have HB := n4_; clear n0_ n1_ n2_ n3_ n4_; (try clear hb); (try clear hb2); (try clear hk); (try clear hi); have hcz24_0 : w23.cell? ⟨gb225, 0, none⟩ = some (.int .i64 a2_0) := (blk_cell BK225.out 0).trans rfl; have hcz24_1 : w23.cell? ⟨gb225, 1, none⟩ = some (.int .i64 a2_1) := (blk_cell BK225.out 1).trans rfl; have hcz24_2 : w23.cell? ⟨gb225, 2, none⟩ = some (.int .i64 a2_2) := (blk_cell BK225.out 2).trans rfl; have hcz24_3 : w23.cell? ⟨gb225, 3, none⟩ = some (.int .i64 a2_3) := (blk_cell BK225.out 3).trans rfl; have hcz24_4 : w23.cell? ⟨gb225, 4, none⟩ = some (.int .i64 a2_4) := (blk_cell BK225.out 4).trans rfl; have hcz24_5 : w23.cell? ⟨gb225, 5, none⟩ = some (.string a2_5) := (blk_cell BK225.out 5).trans rfl; have hcz24_6 : w23.cell? ⟨gb225, 6, none⟩ = some (.int .i64 a2_6) := (blk_cell BK225.out 6).trans rfl; have hfz24_0 := blk_frozen BK225.out 0; have hfz24_1 := blk_frozen BK225.out 1; have hfz24_2 := blk_frozen BK225.out 2; have hfz24_3 := blk_frozen BK225.out 3; have hfz24_4 := blk_frozen BK225.out 4; have hfz24_5 := blk_frozen BK225.out 5; have hfz24_6 := blk_frozen BK225.out 6))
      go_meet
      case rel => exact ⟨_, (true), (by first | rfl | (simp; done) | (simp [*]; done)), H', ⟨by first | omega | exact Nat.le_refl _⟩, ⟨by (with_reducible repeat (first | refine blk_drewN ?_ _ | refine blk_drew ?_ | refine blk_alloc ?_ _)); exact BK223.out⟩, ⟨by (with_reducible repeat (first | refine blk_drewN ?_ _ | refine blk_drew ?_ | refine blk_alloc ?_ _)); exact BK224.out⟩, ⟨by (with_reducible repeat (first | refine blk_drewN ?_ _ | refine blk_drew ?_ | refine blk_alloc ?_ _)); exact BK225.out⟩, ⟨by (with_reducible repeat (first | refine blk_drewN ?_ _ | refine blk_drew ?_ | refine blk_alloc ?_ _)); exact BK226.out⟩, ⟨by repeat (first | (with_reducible first | exact HB.out | apply below_alloc | apply pw_below_drewN | apply below_drew1 | refine below_set ?_ GE223.out | refine below_set ?_ GE224.out | refine below_set ?_ GE225.out | refine below_set ?_ GE226.out) | exact HB.out)⟩⟩
     ·rw [if_neg c14] at H
      have c14b0 : decide (a2_3 < 0) = false := decide_eq_false c14
      clear c14
      have H' := Aside0.mk H
      clear H
      have hnb25 := NB223_224.out
      have hnc25 := NB224_223.out
      have hnb26 := NB223_225.out
      have hnc26 := NB225_223.out
      have hnb27 := NB223_226.out
      have hnc27 := NB226_223.out
      have hcz28_0 : w8.cell? ⟨gb223, 0, none⟩ = some (.int .i64 a0_0) := (blk_cell BK223.out 0).trans rfl
      have hcz28_1 : w8.cell? ⟨gb223, 1, none⟩ = some (.int .i64 a0_1) := (blk_cell BK223.out 1).trans rfl
      have hfz28_0 := blk_frozen BK223.out 0
      have hfz28_1 := blk_frozen BK223.out 1
      go_wp2_with (first | ((with_reducible refine gate_callee (f := 10) rfl ?_); refine goesL_ (some 11) rfl rfl Try.func10 (by kernel_rfl) rfl #[.agg #[.int .i64 a0_0, .int .i64 a0_1]] rfl (by (try simp only [List.map_toArray, List.map_cons, List.map_nil]); first | done | rfl | (simp only [List.length_drop, List.length_take]; rfl)) ?_; (with_reducible refine (signalbenchref20_Check.calls k a0_0 a0_1 t227 _ A9.out).mono ?_); rintro e w29 ⟨rfl, hb⟩; refine ⟨_, rfl, ?_⟩; have n0_ := Aside0.mk (blkb BK223.out hb); have n1_ := Aside0.mk (blkb BK224.out hb); have n2_ := Aside0.mk (blkb BK225.out hb); have n3_ := Aside0.mk (blkb BK226.out hb); have n4_ := Aside0.mk (below_step (hbw HB.out) hb); clear BK223; clear BK224; clear BK225; clear BK226; clear HB; have BK223 := n0_; have BK224 := n1_; have BK225 := n2_; have BK226 := n3_; have HB := n4_; clear n0_ n1_ n2_ n3_ n4_; (try clear hb); (try clear hb2); (try clear hk); (try clear hi); have hnb30 := NB225_224.out; have hnc30 := NB224_225.out; have hnb31 := NB225_226.out; have hnc31 := NB226_225.out; have hcz32_0 : w29.cell? ⟨gb225, 0, none⟩ = some (.int .i64 a2_0) := (blk_cell BK225.out 0).trans rfl; have hcz32_1 : w29.cell? ⟨gb225, 1, none⟩ = some (.int .i64 a2_1) := (blk_cell BK225.out 1).trans rfl; have hcz32_2 : w29.cell? ⟨gb225, 2, none⟩ = some (.int .i64 a2_2) := (blk_cell BK225.out 2).trans rfl; have hcz32_3 : w29.cell? ⟨gb225, 3, none⟩ = some (.int .i64 a2_3) := (blk_cell BK225.out 3).trans rfl; have hcz32_4 : w29.cell? ⟨gb225, 4, none⟩ = some (.int .i64 a2_4) := (blk_cell BK225.out 4).trans rfl; have hcz32_5 : w29.cell? ⟨gb225, 5, none⟩ = some (.string a2_5) := (blk_cell BK225.out 5).trans rfl; have hcz32_6 : w29.cell? ⟨gb225, 6, none⟩ = some (.int .i64 a2_6) := (blk_cell BK225.out 6).trans rfl; have hfz32_0 := blk_frozen BK225.out 0; have hfz32_1 := blk_frozen BK225.out 1; have hfz32_2 := blk_frozen BK225.out 2; have hfz32_3 := blk_frozen BK225.out 3; have hfz32_4 := blk_frozen BK225.out 4; have hfz32_5 := blk_frozen BK225.out 5; have hfz32_6 := blk_frozen BK225.out 6) | (go_at_call 32; (with_reducible refine (signalbenchref07_Valid.calls a2_0 a2_1 a2_2 a2_3 a2_4 a2_5 a2_6 true _ A11.out).mono ?_); rintro e w33 ⟨rfl, hb⟩; have n0_ := Aside0.mk (blkb BK223.out hb); have n1_ := Aside0.mk (blkb BK224.out hb); have n2_ := Aside0.mk (blkb BK225.out hb); have n3_ := Aside0.mk (blkb BK226.out hb); have n4_ := Aside0.mk (below_step (hbw HB.out) hb); clear BK223; clear BK224; clear BK225; clear BK226; clear HB; have BK223 := n0_; have BK224 := n1_; have BK225 := n2_; have BK226 := n3_; have HB := n4_; clear n0_ n1_ n2_ n3_ n4_; (try clear hb); (try clear hb2); (try clear hk); (try clear hi); have hcz34_0 : w33.cell? ⟨gb225, 0, none⟩ = some (.int .i64 a2_0) := (blk_cell BK225.out 0).trans rfl; have hcz34_1 : w33.cell? ⟨gb225, 1, none⟩ = some (.int .i64 a2_1) := (blk_cell BK225.out 1).trans rfl; have hcz34_2 : w33.cell? ⟨gb225, 2, none⟩ = some (.int .i64 a2_2) := (blk_cell BK225.out 2).trans rfl; have hcz34_3 : w33.cell? ⟨gb225, 3, none⟩ = some (.int .i64 a2_3) := (blk_cell BK225.out 3).trans rfl; have hcz34_4 : w33.cell? ⟨gb225, 4, none⟩ = some (.int .i64 a2_4) := (blk_cell BK225.out 4).trans rfl; have hcz34_5 : w33.cell? ⟨gb225, 5, none⟩ = some (.string a2_5) := (blk_cell BK225.out 5).trans rfl; have hcz34_6 : w33.cell? ⟨gb225, 6, none⟩ = some (.int .i64 a2_6) := (blk_cell BK225.out 6).trans rfl; have hfz34_0 := blk_frozen BK225.out 0; have hfz34_1 := blk_frozen BK225.out 1; have hfz34_2 := blk_frozen BK225.out 2; have hfz34_3 := blk_frozen BK225.out 3; have hfz34_4 := blk_frozen BK225.out 4; have hfz34_5 := blk_frozen BK225.out 5; have hfz34_6 := blk_frozen BK225.out 6))
      go_meet
      case rel => exact ⟨_, (decide (a2_3 > 1)), (by first | rfl | (simp; done) | (simp [*]; done)), H', ⟨by first | omega | exact Nat.le_refl _⟩, ⟨by (with_reducible repeat (first | refine blk_drewN ?_ _ | refine blk_drew ?_ | refine blk_alloc ?_ _)); exact BK223.out⟩, ⟨by (with_reducible repeat (first | refine blk_drewN ?_ _ | refine blk_drew ?_ | refine blk_alloc ?_ _)); exact BK224.out⟩, ⟨by (with_reducible repeat (first | refine blk_drewN ?_ _ | refine blk_drew ?_ | refine blk_alloc ?_ _)); exact BK225.out⟩, ⟨by (with_reducible repeat (first | refine blk_drewN ?_ _ | refine blk_drew ?_ | refine blk_alloc ?_ _)); exact BK226.out⟩, ⟨by repeat (first | (with_reducible first | exact HB.out | apply below_alloc | apply pw_below_drewN | apply below_drew1 | refine below_set ?_ GE223.out | refine below_set ?_ GE224.out | refine below_set ?_ GE225.out | refine below_set ?_ GE226.out) | exact HB.out)⟩⟩
    ·rw [if_neg c13] at H
     have c13b0 : (a2_0 == 2) = false := beq_eq_false_iff_ne.mpr c13
     have c13b1 : (a2_0 != 2) = true := bne_iff_ne.mpr c13
     have H' := Aside0.mk H
     clear H
     have hnb35 := NB223_224.out
     have hnc35 := NB224_223.out
     have hnb36 := NB223_225.out
     have hnc36 := NB225_223.out
     have hnb37 := NB223_226.out
     have hnc37 := NB226_223.out
     have hcz38_0 : w8.cell? ⟨gb223, 0, none⟩ = some (.int .i64 a0_0) := (blk_cell BK223.out 0).trans rfl
     have hcz38_1 : w8.cell? ⟨gb223, 1, none⟩ = some (.int .i64 a0_1) := (blk_cell BK223.out 1).trans rfl
     have hfz38_0 := blk_frozen BK223.out 0
     have hfz38_1 := blk_frozen BK223.out 1
     go_wp2_with (first | ((with_reducible refine gate_callee (f := 10) rfl ?_); refine goesL_ (some 11) rfl rfl Try.func10 (by kernel_rfl) rfl #[.agg #[.int .i64 a0_0, .int .i64 a0_1]] rfl (by (try simp only [List.map_toArray, List.map_cons, List.map_nil]); first | done | rfl | (simp only [List.length_drop, List.length_take]; rfl)) ?_; (with_reducible refine (signalbenchref20_Check.calls k a0_0 a0_1 t227 _ A9.out).mono ?_); rintro e w39 ⟨rfl, hb⟩; refine ⟨_, rfl, ?_⟩; have n0_ := Aside0.mk (blkb BK223.out hb); have n1_ := Aside0.mk (blkb BK224.out hb); have n2_ := Aside0.mk (blkb BK225.out hb); have n3_ := Aside0.mk (blkb BK226.out hb); have n4_ := Aside0.mk (below_step (hbw HB.out) hb); clear BK223; clear BK224; clear BK225; clear BK226; clear HB; have BK223 := n0_; have BK224 := n1_; have BK225 := n2_; have BK226 := n3_; have HB := n4_; clear n0_ n1_ n2_ n3_ n4_; (try clear hb); (try clear hb2); (try clear hk); (try clear hi); have hnb40 := NB225_224.out; have hnc40 := NB224_225.out; have hnb41 := NB225_226.out; have hnc41 := NB226_225.out; have hcz42_0 : w39.cell? ⟨gb225, 0, none⟩ = some (.int .i64 a2_0) := (blk_cell BK225.out 0).trans rfl; have hcz42_1 : w39.cell? ⟨gb225, 1, none⟩ = some (.int .i64 a2_1) := (blk_cell BK225.out 1).trans rfl; have hcz42_2 : w39.cell? ⟨gb225, 2, none⟩ = some (.int .i64 a2_2) := (blk_cell BK225.out 2).trans rfl; have hcz42_3 : w39.cell? ⟨gb225, 3, none⟩ = some (.int .i64 a2_3) := (blk_cell BK225.out 3).trans rfl; have hcz42_4 : w39.cell? ⟨gb225, 4, none⟩ = some (.int .i64 a2_4) := (blk_cell BK225.out 4).trans rfl; have hcz42_5 : w39.cell? ⟨gb225, 5, none⟩ = some (.string a2_5) := (blk_cell BK225.out 5).trans rfl; have hcz42_6 : w39.cell? ⟨gb225, 6, none⟩ = some (.int .i64 a2_6) := (blk_cell BK225.out 6).trans rfl; have hfz42_0 := blk_frozen BK225.out 0; have hfz42_1 := blk_frozen BK225.out 1; have hfz42_2 := blk_frozen BK225.out 2; have hfz42_3 := blk_frozen BK225.out 3; have hfz42_4 := blk_frozen BK225.out 4; have hfz42_5 := blk_frozen BK225.out 5; have hfz42_6 := blk_frozen BK225.out 6) | (go_at_call 32; (with_reducible refine (signalbenchref07_Valid.calls a2_0 a2_1 a2_2 a2_3 a2_4 a2_5 a2_6 true _ A11.out).mono ?_); rintro e w43 ⟨rfl, hb⟩; have n0_ := Aside0.mk (blkb BK223.out hb); have n1_ := Aside0.mk (blkb BK224.out hb); have n2_ := Aside0.mk (blkb BK225.out hb); have n3_ := Aside0.mk (blkb BK226.out hb); have n4_ := Aside0.mk (below_step (hbw HB.out) hb); clear BK223; clear BK224; clear BK225; clear BK226; clear HB; have BK223 := n0_; have BK224 := n1_; have BK225 := n2_; have BK226 := n3_; have HB := n4_; clear n0_ n1_ n2_ n3_ n4_; (try clear hb); (try clear hb2); (try clear hk); (try clear hi); have hcz44_0 : w43.cell? ⟨gb225, 0, none⟩ = some (.int .i64 a2_0) := (blk_cell BK225.out 0).trans rfl; have hcz44_1 : w43.cell? ⟨gb225, 1, none⟩ = some (.int .i64 a2_1) := (blk_cell BK225.out 1).trans rfl; have hcz44_2 : w43.cell? ⟨gb225, 2, none⟩ = some (.int .i64 a2_2) := (blk_cell BK225.out 2).trans rfl; have hcz44_3 : w43.cell? ⟨gb225, 3, none⟩ = some (.int .i64 a2_3) := (blk_cell BK225.out 3).trans rfl; have hcz44_4 : w43.cell? ⟨gb225, 4, none⟩ = some (.int .i64 a2_4) := (blk_cell BK225.out 4).trans rfl; have hcz44_5 : w43.cell? ⟨gb225, 5, none⟩ = some (.string a2_5) := (blk_cell BK225.out 5).trans rfl; have hcz44_6 : w43.cell? ⟨gb225, 6, none⟩ = some (.int .i64 a2_6) := (blk_cell BK225.out 6).trans rfl; have hfz44_0 := blk_frozen BK225.out 0; have hfz44_1 := blk_frozen BK225.out 1; have hfz44_2 := blk_frozen BK225.out 2; have hfz44_3 := blk_frozen BK225.out 3; have hfz44_4 := blk_frozen BK225.out 4; have hfz44_5 := blk_frozen BK225.out 5; have hfz44_6 := blk_frozen BK225.out 6))
     go_meet
     case rel => exact ⟨_, (true), (by first | rfl | (simp; done) | (simp [*]; done)), H', ⟨by first | omega | exact Nat.le_refl _⟩, ⟨by (with_reducible repeat (first | refine blk_drewN ?_ _ | refine blk_drew ?_ | refine blk_alloc ?_ _)); exact BK223.out⟩, ⟨by (with_reducible repeat (first | refine blk_drewN ?_ _ | refine blk_drew ?_ | refine blk_alloc ?_ _)); exact BK224.out⟩, ⟨by (with_reducible repeat (first | refine blk_drewN ?_ _ | refine blk_drew ?_ | refine blk_alloc ?_ _)); exact BK225.out⟩, ⟨by (with_reducible repeat (first | refine blk_drewN ?_ _ | refine blk_drew ?_ | refine blk_alloc ?_ _)); exact BK226.out⟩, ⟨by repeat (first | (with_reducible first | exact HB.out | apply below_alloc | apply pw_below_drewN | apply below_drew1 | refine below_set ?_ GE223.out | refine below_set ?_ GE224.out | refine below_set ?_ GE225.out | refine below_set ?_ GE226.out) | exact HB.out)⟩⟩
   ·replace c12 := Bool.eq_false_iff.mpr c12
    subst c12
    have H1 : (signalbenchref20_Step.j0 k true a0_0 a0_1 a1_0 a1_1 a1_2 a1_3 a1_4 a1_5 a1_6 a1_7 a2_0 a2_1 a2_2 a2_3 a2_4 a2_5 a2_6) = some (r1, r2, r3, r4, r5, r6, r7, r8, r9) := by rw [if_neg (show ¬ (false = true) by decide)] at H; exact H
    clear H
    have H := H1
    clear H1
    have H' := Aside0.mk H
    clear H
    have hnb45 := NB223_224.out
    have hnc45 := NB224_223.out
    have hnb46 := NB223_225.out
    have hnc46 := NB225_223.out
    have hnb47 := NB223_226.out
    have hnc47 := NB226_223.out
    have hcz48_0 : w8.cell? ⟨gb223, 0, none⟩ = some (.int .i64 a0_0) := (blk_cell BK223.out 0).trans rfl
    have hcz48_1 : w8.cell? ⟨gb223, 1, none⟩ = some (.int .i64 a0_1) := (blk_cell BK223.out 1).trans rfl
    have hfz48_0 := blk_frozen BK223.out 0
    have hfz48_1 := blk_frozen BK223.out 1
    go_wp2_with (first | ((with_reducible refine gate_callee (f := 10) rfl ?_); refine goesL_ (some 11) rfl rfl Try.func10 (by kernel_rfl) rfl #[.agg #[.int .i64 a0_0, .int .i64 a0_1]] rfl (by (try simp only [List.map_toArray, List.map_cons, List.map_nil]); first | done | rfl | (simp only [List.length_drop, List.length_take]; rfl)) ?_; (with_reducible refine (signalbenchref20_Check.calls k a0_0 a0_1 t227 _ A9.out).mono ?_); rintro e w49 ⟨rfl, hb⟩; refine ⟨_, rfl, ?_⟩; have n0_ := Aside0.mk (blkb BK223.out hb); have n1_ := Aside0.mk (blkb BK224.out hb); have n2_ := Aside0.mk (blkb BK225.out hb); have n3_ := Aside0.mk (blkb BK226.out hb); have n4_ := Aside0.mk (below_step (hbw HB.out) hb); clear BK223; clear BK224; clear BK225; clear BK226; clear HB; have BK223 := n0_; have BK224 := n1_; have BK225 := n2_; have BK226 := n3_; have HB := n4_; clear n0_ n1_ n2_ n3_ n4_; (try clear hb); (try clear hb2); (try clear hk); (try clear hi); have hnb50 := NB225_224.out; have hnc50 := NB224_225.out; have hnb51 := NB225_226.out; have hnc51 := NB226_225.out; have hcz52_0 : w49.cell? ⟨gb225, 0, none⟩ = some (.int .i64 a2_0) := (blk_cell BK225.out 0).trans rfl; have hcz52_1 : w49.cell? ⟨gb225, 1, none⟩ = some (.int .i64 a2_1) := (blk_cell BK225.out 1).trans rfl; have hcz52_2 : w49.cell? ⟨gb225, 2, none⟩ = some (.int .i64 a2_2) := (blk_cell BK225.out 2).trans rfl; have hcz52_3 : w49.cell? ⟨gb225, 3, none⟩ = some (.int .i64 a2_3) := (blk_cell BK225.out 3).trans rfl; have hcz52_4 : w49.cell? ⟨gb225, 4, none⟩ = some (.int .i64 a2_4) := (blk_cell BK225.out 4).trans rfl; have hcz52_5 : w49.cell? ⟨gb225, 5, none⟩ = some (.string a2_5) := (blk_cell BK225.out 5).trans rfl; have hcz52_6 : w49.cell? ⟨gb225, 6, none⟩ = some (.int .i64 a2_6) := (blk_cell BK225.out 6).trans rfl; have hfz52_0 := blk_frozen BK225.out 0; have hfz52_1 := blk_frozen BK225.out 1; have hfz52_2 := blk_frozen BK225.out 2; have hfz52_3 := blk_frozen BK225.out 3; have hfz52_4 := blk_frozen BK225.out 4; have hfz52_5 := blk_frozen BK225.out 5; have hfz52_6 := blk_frozen BK225.out 6) | (go_at_call 32; (with_reducible refine (signalbenchref07_Valid.calls a2_0 a2_1 a2_2 a2_3 a2_4 a2_5 a2_6 false _ A11.out).mono ?_); rintro e w53 ⟨rfl, hb⟩; have n0_ := Aside0.mk (blkb BK223.out hb); have n1_ := Aside0.mk (blkb BK224.out hb); have n2_ := Aside0.mk (blkb BK225.out hb); have n3_ := Aside0.mk (blkb BK226.out hb); have n4_ := Aside0.mk (below_step (hbw HB.out) hb); clear BK223; clear BK224; clear BK225; clear BK226; clear HB; have BK223 := n0_; have BK224 := n1_; have BK225 := n2_; have BK226 := n3_; have HB := n4_; clear n0_ n1_ n2_ n3_ n4_; (try clear hb); (try clear hb2); (try clear hk); (try clear hi)))
    go_meet
    case rel => exact ⟨_, (true), (by first | rfl | (simp; done) | (simp [*]; done)), H', ⟨by first | omega | exact Nat.le_refl _⟩, ⟨by (with_reducible repeat (first | refine blk_drewN ?_ _ | refine blk_drew ?_ | refine blk_alloc ?_ _)); exact BK223.out⟩, ⟨by (with_reducible repeat (first | refine blk_drewN ?_ _ | refine blk_drew ?_ | refine blk_alloc ?_ _)); exact BK224.out⟩, ⟨by (with_reducible repeat (first | refine blk_drewN ?_ _ | refine blk_drew ?_ | refine blk_alloc ?_ _)); exact BK225.out⟩, ⟨by (with_reducible repeat (first | refine blk_drewN ?_ _ | refine blk_drew ?_ | refine blk_alloc ?_ _)); exact BK226.out⟩, ⟨by repeat (first | (with_reducible first | exact HB.out | apply below_alloc | apply pw_below_drewN | apply below_drew1 | refine below_set ?_ GE223.out | refine below_set ?_ GE224.out | refine below_set ?_ GE225.out | refine below_set ?_ GE226.out) | exact HB.out)⟩⟩
  ·rw [if_neg c10] at H
   have c10b0 : (t227 == 0) = false := beq_eq_false_iff_ne.mpr c10
   have c10b1 : (t227 != 0) = true := bne_iff_ne.mpr c10
   (first | rw [c10b0] | (simp only [i64_w, i32_w]; rw [c10b0]) | skip)
   have H' := Aside0.mk H
   clear H
   have hnb54 := NB223_224.out
   have hnc54 := NB224_223.out
   have hnb55 := NB223_225.out
   have hnc55 := NB225_223.out
   have hnb56 := NB223_226.out
   have hnc56 := NB226_223.out
   have hcz57_0 : w8.cell? ⟨gb223, 0, none⟩ = some (.int .i64 a0_0) := (blk_cell BK223.out 0).trans rfl
   have hcz57_1 : w8.cell? ⟨gb223, 1, none⟩ = some (.int .i64 a0_1) := (blk_cell BK223.out 1).trans rfl
   have hfz57_0 := blk_frozen BK223.out 0
   have hfz57_1 := blk_frozen BK223.out 1
   go_wp2_with (first | ((with_reducible refine gate_callee (f := 10) rfl ?_); refine goesL_ (some 11) rfl rfl Try.func10 (by kernel_rfl) rfl #[.agg #[.int .i64 a0_0, .int .i64 a0_1]] rfl (by (try simp only [List.map_toArray, List.map_cons, List.map_nil]); first | done | rfl | (simp only [List.length_drop, List.length_take]; rfl)) ?_; (with_reducible refine (signalbenchref20_Check.calls k a0_0 a0_1 t227 _ A9.out).mono ?_); rintro e w58 ⟨rfl, hb⟩; refine ⟨_, rfl, ?_⟩; have n0_ := Aside0.mk (blkb BK223.out hb); have n1_ := Aside0.mk (blkb BK224.out hb); have n2_ := Aside0.mk (blkb BK225.out hb); have n3_ := Aside0.mk (blkb BK226.out hb); have n4_ := Aside0.mk (below_step (hbw HB.out) hb); clear BK223; clear BK224; clear BK225; clear BK226; clear HB; have BK223 := n0_; have BK224 := n1_; have BK225 := n2_; have BK226 := n3_; have HB := n4_; clear n0_ n1_ n2_ n3_ n4_; (try clear hb); (try clear hb2); (try clear hk); (try clear hi)))
   go_meet
   case rel => exact ⟨_, (true), (by first | rfl | (simp; done) | (simp [*]; done)), H', ⟨by first | omega | exact Nat.le_refl _⟩, ⟨by (with_reducible repeat (first | refine blk_drewN ?_ _ | refine blk_drew ?_ | refine blk_alloc ?_ _)); exact BK223.out⟩, ⟨by (with_reducible repeat (first | refine blk_drewN ?_ _ | refine blk_drew ?_ | refine blk_alloc ?_ _)); exact BK224.out⟩, ⟨by (with_reducible repeat (first | refine blk_drewN ?_ _ | refine blk_drew ?_ | refine blk_alloc ?_ _)); exact BK225.out⟩, ⟨by (with_reducible repeat (first | refine blk_drewN ?_ _ | refine blk_drew ?_ | refine blk_alloc ?_ _)); exact BK226.out⟩, ⟨by repeat (first | (with_reducible first | exact HB.out | apply below_alloc | apply pw_below_drewN | apply below_drew1 | refine below_set ?_ GE223.out | refine below_set ?_ GE224.out | refine below_set ?_ GE225.out | refine below_set ?_ GE226.out) | exact HB.out)⟩⟩
 case rest =>
  clear HC4
  try clear c1
  try clear c2
  try clear p2
  try clear c3
  try clear c4
  try clear c5
  try clear c10
  try clear c10b0
  try clear c10b1
  try clear c12
  try clear c13
  try clear c13b0
  try clear c13b1
  try clear c14
  try clear c14b0
  try clear c15
  try clear c16
  try clear c17
  try clear c18
  try clear c20
  try clear c21
  try clear c25
  try clear c26
  try clear c27
  try clear c30
  try clear c31
  try clear c35
  try clear c36
  try clear c37
  try clear c40
  try clear c41
  try clear c45
  try clear c46
  try clear c47
  try clear c50
  try clear c51
  try clear c54
  try clear c55
  try clear c56
  try clear hcz18_0
  try clear hcz18_1
  try clear hcz22_0
  try clear hcz22_1
  try clear hcz22_2
  try clear hcz22_3
  try clear hcz22_4
  try clear hcz22_5
  try clear hcz22_6
  try clear hcz24_0
  try clear hcz24_1
  try clear hcz24_2
  try clear hcz24_3
  try clear hcz24_4
  try clear hcz24_5
  try clear hcz24_6
  try clear hcz28_0
  try clear hcz28_1
  try clear hcz32_0
  try clear hcz32_1
  try clear hcz32_2
  try clear hcz32_3
  try clear hcz32_4
  try clear hcz32_5
  try clear hcz32_6
  try clear hcz34_0
  try clear hcz34_1
  try clear hcz34_2
  try clear hcz34_3
  try clear hcz34_4
  try clear hcz34_5
  try clear hcz34_6
  try clear hcz38_0
  try clear hcz38_1
  try clear hcz42_0
  try clear hcz42_1
  try clear hcz42_2
  try clear hcz42_3
  try clear hcz42_4
  try clear hcz42_5
  try clear hcz42_6
  try clear hcz44_0
  try clear hcz44_1
  try clear hcz44_2
  try clear hcz44_3
  try clear hcz44_4
  try clear hcz44_5
  try clear hcz44_6
  try clear hcz48_0
  try clear hcz48_1
  try clear hcz52_0
  try clear hcz52_1
  try clear hcz52_2
  try clear hcz52_3
  try clear hcz52_4
  try clear hcz52_5
  try clear hcz52_6
  try clear hcz57_0
  try clear hcz57_1
  try clear hfz18_0
  try clear hfz18_1
  try clear hfz22_0
  try clear hfz22_1
  try clear hfz22_2
  try clear hfz22_3
  try clear hfz22_4
  try clear hfz22_5
  try clear hfz22_6
  try clear hfz24_0
  try clear hfz24_1
  try clear hfz24_2
  try clear hfz24_3
  try clear hfz24_4
  try clear hfz24_5
  try clear hfz24_6
  try clear hfz28_0
  try clear hfz28_1
  try clear hfz32_0
  try clear hfz32_1
  try clear hfz32_2
  try clear hfz32_3
  try clear hfz32_4
  try clear hfz32_5
  try clear hfz32_6
  try clear hfz34_0
  try clear hfz34_1
  try clear hfz34_2
  try clear hfz34_3
  try clear hfz34_4
  try clear hfz34_5
  try clear hfz34_6
  try clear hfz38_0
  try clear hfz38_1
  try clear hfz42_0
  try clear hfz42_1
  try clear hfz42_2
  try clear hfz42_3
  try clear hfz42_4
  try clear hfz42_5
  try clear hfz42_6
  try clear hfz44_0
  try clear hfz44_1
  try clear hfz44_2
  try clear hfz44_3
  try clear hfz44_4
  try clear hfz44_5
  try clear hfz44_6
  try clear hfz48_0
  try clear hfz48_1
  try clear hfz52_0
  try clear hfz52_1
  try clear hfz52_2
  try clear hfz52_3
  try clear hfz52_4
  try clear hfz52_5
  try clear hfz52_6
  try clear hfz57_0
  try clear hfz57_1
  obtain ⟨kq, x32_3, rfl, HA, HJ3, BK223, BK224, BK225, BK226, HB⟩ := hcut
  cases kq with
  | zero => exact absurd HA.out (by simp [signalbenchref20_Step.j0])
  | succ kj3 =>
   have H := HA.out
   clear HA
   simp only [signalbenchref20_Step.j0] at H
   by_cases c59 : x32_3 = true
   ·subst c59
    have H1 : (some (a1_0, a1_1, a1_2, a1_3, a1_4, a1_5, a1_6, a1_7, ([] : List (S27)))) = some (r1, r2, r3, r4, r5, r6, r7, r8, r9) := by rw [if_pos rfl] at H; exact H
    clear H
    have H := H1
    clear H1
    simp only [Option.some.injEq, Prod.mk.injEq] at H
    obtain ⟨rfl, rfl, rfl, rfl, rfl, rfl, rfl, rfl, rfl⟩ := H
    have hnb60 := NB224_223.out
    have hnc60 := NB223_224.out
    have hnb61 := NB224_225.out
    have hnc61 := NB225_224.out
    have hnb62 := NB224_226.out
    have hnc62 := NB226_224.out
    have hcz63_0 : wc.cell? ⟨gb224, 0, none⟩ = some (.int .i64 a1_0) := (blk_cell BK224.out 0).trans rfl
    have hcz63_1 : wc.cell? ⟨gb224, 1, none⟩ = some (.int .i64 a1_1) := (blk_cell BK224.out 1).trans rfl
    have hcz63_2 : wc.cell? ⟨gb224, 2, none⟩ = some (.int .i64 a1_2) := (blk_cell BK224.out 2).trans rfl
    have hcz63_3 : wc.cell? ⟨gb224, 3, none⟩ = some (.int .i64 a1_3) := (blk_cell BK224.out 3).trans rfl
    have hcz63_4 : wc.cell? ⟨gb224, 4, none⟩ = some (.int .i64 a1_4) := (blk_cell BK224.out 4).trans rfl
    have hcz63_5 : wc.cell? ⟨gb224, 5, none⟩ = some (.int .i64 a1_5) := (blk_cell BK224.out 5).trans rfl
    have hcz63_6 : wc.cell? ⟨gb224, 6, none⟩ = some (.int .i64 a1_6) := (blk_cell BK224.out 6).trans rfl
    have hcz63_7 : wc.cell? ⟨gb224, 7, none⟩ = some (.string a1_7) := (blk_cell BK224.out 7).trans rfl
    have hfz63_0 := blk_frozen BK224.out 0
    have hfz63_1 := blk_frozen BK224.out 1
    have hfz63_2 := blk_frozen BK224.out 2
    have hfz63_3 := blk_frozen BK224.out 3
    have hfz63_4 := blk_frozen BK224.out 4
    have hfz63_5 := blk_frozen BK224.out 5
    have hfz63_6 := blk_frozen BK224.out 6
    have hfz63_7 := blk_frozen BK224.out 7
    have hnb64 := NB226_223.out
    have hnc64 := NB223_226.out
    have hnb65 := NB226_225.out
    have hnc65 := NB225_226.out
    have hcz66_0 : wc.cell? ⟨gb226, 0, none⟩ = some (.int .i64 0) := (blk_cell BK226.out 0).trans rfl
    have hcz66_1 : wc.cell? ⟨gb226, 1, none⟩ = some (.int .i64 0) := (blk_cell BK226.out 1).trans rfl
    have hcz66_2 : wc.cell? ⟨gb226, 2, none⟩ = some (.int .i64 0) := (blk_cell BK226.out 2).trans rfl
    have hcz66_3 : wc.cell? ⟨gb226, 3, none⟩ = some (.int .i64 0) := (blk_cell BK226.out 3).trans rfl
    have hcz66_4 : wc.cell? ⟨gb226, 4, none⟩ = some (.int .i64 0) := (blk_cell BK226.out 4).trans rfl
    have hcz66_5 : wc.cell? ⟨gb226, 5, none⟩ = some (.int .i64 0) := (blk_cell BK226.out 5).trans rfl
    have hcz66_6 : wc.cell? ⟨gb226, 6, none⟩ = some (.int .i64 0) := (blk_cell BK226.out 6).trans rfl
    have hcz66_7 : wc.cell? ⟨gb226, 7, none⟩ = some (.string (⟨#[]⟩ : ByteArray)) := (blk_cell BK226.out 7).trans rfl
    have hfz66_0 := blk_frozen BK226.out 0
    have hfz66_1 := blk_frozen BK226.out 1
    have hfz66_2 := blk_frozen BK226.out 2
    have hfz66_3 := blk_frozen BK226.out 3
    have hfz66_4 := blk_frozen BK226.out 4
    have hfz66_5 := blk_frozen BK226.out 5
    have hfz66_6 := blk_frozen BK226.out 6
    have hfz66_7 := blk_frozen BK226.out 7
    go_wp2
    refine bodyPost_ret (results_ct rfl _ _ gb226 25 #[.int .i64 a1_0, .int .i64 a1_1, .int .i64 a1_2, .int .i64 a1_3, .int .i64 a1_4, .int .i64 a1_5, .int .i64 a1_6, .string a1_7] (0, 0) _ rfl (by (with_reducible repeat (first | refine blk_drewN ?_ _ | refine blk_drew ?_ | refine blk_alloc ?_ _)); refine blk_put (cs := #[.int .i64 a1_0, .int .i64 a1_1, .int .i64 a1_2, .int .i64 a1_3, .int .i64 a1_4, .int .i64 a1_5, .int .i64 a1_6, .string (⟨#[]⟩ : ByteArray)]) ?_ 7 _ rfl; (with_reducible repeat (first | refine blk_drewN ?_ _ | refine blk_drew ?_ | refine blk_alloc ?_ _)); refine blk_put (cs := #[.int .i64 a1_0, .int .i64 a1_1, .int .i64 a1_2, .int .i64 a1_3, .int .i64 a1_4, .int .i64 a1_5, .int .i64 0, .string (⟨#[]⟩ : ByteArray)]) ?_ 6 _ rfl; (with_reducible repeat (first | refine blk_drewN ?_ _ | refine blk_drew ?_ | refine blk_alloc ?_ _)); refine blk_put (cs := #[.int .i64 a1_0, .int .i64 a1_1, .int .i64 a1_2, .int .i64 a1_3, .int .i64 a1_4, .int .i64 0, .int .i64 0, .string (⟨#[]⟩ : ByteArray)]) ?_ 5 _ rfl; (with_reducible repeat (first | refine blk_drewN ?_ _ | refine blk_drew ?_ | refine blk_alloc ?_ _)); refine blk_put (cs := #[.int .i64 a1_0, .int .i64 a1_1, .int .i64 a1_2, .int .i64 a1_3, .int .i64 0, .int .i64 0, .int .i64 0, .string (⟨#[]⟩ : ByteArray)]) ?_ 4 _ rfl; (with_reducible repeat (first | refine blk_drewN ?_ _ | refine blk_drew ?_ | refine blk_alloc ?_ _)); refine blk_put (cs := #[.int .i64 a1_0, .int .i64 a1_1, .int .i64 a1_2, .int .i64 0, .int .i64 0, .int .i64 0, .int .i64 0, .string (⟨#[]⟩ : ByteArray)]) ?_ 3 _ rfl; (with_reducible repeat (first | refine blk_drewN ?_ _ | refine blk_drew ?_ | refine blk_alloc ?_ _)); refine blk_put (cs := #[.int .i64 a1_0, .int .i64 a1_1, .int .i64 0, .int .i64 0, .int .i64 0, .int .i64 0, .int .i64 0, .string (⟨#[]⟩ : ByteArray)]) ?_ 2 _ rfl; (with_reducible repeat (first | refine blk_drewN ?_ _ | refine blk_drew ?_ | refine blk_alloc ?_ _)); refine blk_put (cs := #[.int .i64 a1_0, .int .i64 0, .int .i64 0, .int .i64 0, .int .i64 0, .int .i64 0, .int .i64 0, .string (⟨#[]⟩ : ByteArray)]) ?_ 1 _ rfl; (with_reducible repeat (first | refine blk_drewN ?_ _ | refine blk_drew ?_ | refine blk_alloc ?_ _)); refine blk_put (cs := #[.int .i64 0, .int .i64 0, .int .i64 0, .int .i64 0, .int .i64 0, .int .i64 0, .int .i64 0, .string (⟨#[]⟩ : ByteArray)]) ?_ 0 _ rfl; (with_reducible repeat (first | refine blk_drewN ?_ _ | refine blk_drew ?_ | refine blk_alloc ?_ _)); exact BK226.out) Try.underlying25 rfl (by kernel_rfl)) rfl ?_
    exact ⟨_, by first | rfl | (simp [errW_none, errW_some] <;> rfl) | (simp [*, errW_none, errW_some] <;> rfl), by first | exact Kd.R_nil _ _ _ _ _ | exact Kd.N_nil _ _ _ _ _ | exact Kd.V_nil _ _ _ _ _ | exact Kd.Q_nil _ _ _ _ _ | exact Kd.S_nil _ _ _ _ _, by repeat (first | (with_reducible first | exact HB.out | apply below_alloc | apply pw_below_drewN | apply below_drew1 | refine below_set ?_ GE223.out | refine below_set ?_ GE224.out | refine below_set ?_ GE225.out | refine below_set ?_ GE226.out) | exact HB.out)⟩
   ·replace c59 := Bool.eq_false_iff.mpr c59
    subst c59
    have H1 : (if a1_0 = 1 then (signalbenchref20_Step.j1 kj3 (decide (a2_1 < a1_2)) a0_0 a0_1 a1_0 a1_1 a1_2 a1_3 a1_4 a1_5 a1_6 a1_7 a2_0 a2_1 a2_2 a2_3 a2_4 a2_5 a2_6) else (signalbenchref20_Step.j1 kj3 false a0_0 a0_1 a1_0 a1_1 a1_2 a1_3 a1_4 a1_5 a1_6 a1_7 a2_0 a2_1 a2_2 a2_3 a2_4 a2_5 a2_6)) = some (r1, r2, r3, r4, r5, r6, r7, r8, r9) := by rw [if_neg (show ¬ (false = true) by decide)] at H; exact H
    clear H
    have H := H1
    clear H1
    have HC67 := Aside0.mk H
    clear H
    go_upto_region 3 with (fail)
    go_cut [43] (fun v43 wc => ∃ (kq : Nat) (x43_66 : Bool), v43 = .bool x43_66 ∧ Aside0 (signalbenchref20_Step.j1 kq x43_66 a0_0 a0_1 a1_0 a1_1 a1_2 a1_3 a1_4 a1_5 a1_6 a1_7 a2_0 a2_1 a2_2 a2_3 a2_4 a2_5 a2_6 = some (r1, r2, r3, r4, r5, r6, r7, r8, r9)) ∧ Aside0 (kq ≤ kj3) ∧ Aside0 (wc.heap[gb223]? = some (.cells #[.int .i64 a0_0, .int .i64 a0_1] 23 (0, 0))) ∧ Aside0 (wc.heap[gb224]? = some (.cells #[.int .i64 a1_0, .int .i64 a1_1, .int .i64 a1_2, .int .i64 a1_3, .int .i64 a1_4, .int .i64 a1_5, .int .i64 a1_6, .string a1_7] 25 (0, 0))) ∧ Aside0 (wc.heap[gb225]? = some (.cells #[.int .i64 a2_0, .int .i64 a2_1, .int .i64 a2_2, .int .i64 a2_3, .int .i64 a2_4, .string a2_5, .int .i64 a2_6] 27 (0, 0))) ∧ Aside0 (wc.heap[gb226]? = some (.cells #[.int .i64 0, .int .i64 0, .int .i64 0, .int .i64 0, .int .i64 0, .int .i64 0, .int .i64 0, .string (⟨#[]⟩ : ByteArray)] 25 (0, 0))) ∧ Aside0 (Below w.heap.size w wc))
    case first =>
     have H := HC67.out
     clear HC67
     by_cases c68 : a1_0 = 1
     ·rw [if_pos c68] at H
      have c68b0 : (a1_0 == 1) = true := beq_iff_eq.mpr c68
      have c68b1 : (a1_0 != 1) = false := bne_eq_false_iff_eq.mpr c68
      clear c68
      (first | rw [c68b0] | (simp only [i64_w, i32_w]; rw [c68b0]) | skip)
      have H' := Aside0.mk H
      clear H
      have hnb69 := NB224_223.out
      have hnc69 := NB223_224.out
      have hnb70 := NB224_225.out
      have hnc70 := NB225_224.out
      have hnb71 := NB224_226.out
      have hnc71 := NB226_224.out
      have hcz72_0 : wc.cell? ⟨gb224, 0, none⟩ = some (.int .i64 a1_0) := (blk_cell BK224.out 0).trans rfl
      have hcz72_1 : wc.cell? ⟨gb224, 1, none⟩ = some (.int .i64 a1_1) := (blk_cell BK224.out 1).trans rfl
      have hcz72_2 : wc.cell? ⟨gb224, 2, none⟩ = some (.int .i64 a1_2) := (blk_cell BK224.out 2).trans rfl
      have hcz72_3 : wc.cell? ⟨gb224, 3, none⟩ = some (.int .i64 a1_3) := (blk_cell BK224.out 3).trans rfl
      have hcz72_4 : wc.cell? ⟨gb224, 4, none⟩ = some (.int .i64 a1_4) := (blk_cell BK224.out 4).trans rfl
      have hcz72_5 : wc.cell? ⟨gb224, 5, none⟩ = some (.int .i64 a1_5) := (blk_cell BK224.out 5).trans rfl
      have hcz72_6 : wc.cell? ⟨gb224, 6, none⟩ = some (.int .i64 a1_6) := (blk_cell BK224.out 6).trans rfl
      have hcz72_7 : wc.cell? ⟨gb224, 7, none⟩ = some (.string a1_7) := (blk_cell BK224.out 7).trans rfl
      have hfz72_0 := blk_frozen BK224.out 0
      have hfz72_1 := blk_frozen BK224.out 1
      have hfz72_2 := blk_frozen BK224.out 2
      have hfz72_3 := blk_frozen BK224.out 3
      have hfz72_4 := blk_frozen BK224.out 4
      have hfz72_5 := blk_frozen BK224.out 5
      have hfz72_6 := blk_frozen BK224.out 6
      have hfz72_7 := blk_frozen BK224.out 7
      have hnb73 := NB225_223.out
      have hnc73 := NB223_225.out
      have hnb74 := NB225_226.out
      have hnc74 := NB226_225.out
      have hcz75_0 : wc.cell? ⟨gb225, 0, none⟩ = some (.int .i64 a2_0) := (blk_cell BK225.out 0).trans rfl
      have hcz75_1 : wc.cell? ⟨gb225, 1, none⟩ = some (.int .i64 a2_1) := (blk_cell BK225.out 1).trans rfl
      have hcz75_2 : wc.cell? ⟨gb225, 2, none⟩ = some (.int .i64 a2_2) := (blk_cell BK225.out 2).trans rfl
      have hcz75_3 : wc.cell? ⟨gb225, 3, none⟩ = some (.int .i64 a2_3) := (blk_cell BK225.out 3).trans rfl
      have hcz75_4 : wc.cell? ⟨gb225, 4, none⟩ = some (.int .i64 a2_4) := (blk_cell BK225.out 4).trans rfl
      have hcz75_5 : wc.cell? ⟨gb225, 5, none⟩ = some (.string a2_5) := (blk_cell BK225.out 5).trans rfl
      have hcz75_6 : wc.cell? ⟨gb225, 6, none⟩ = some (.int .i64 a2_6) := (blk_cell BK225.out 6).trans rfl
      have hfz75_0 := blk_frozen BK225.out 0
      have hfz75_1 := blk_frozen BK225.out 1
      have hfz75_2 := blk_frozen BK225.out 2
      have hfz75_3 := blk_frozen BK225.out 3
      have hfz75_4 := blk_frozen BK225.out 4
      have hfz75_5 := blk_frozen BK225.out 5
      have hfz75_6 := blk_frozen BK225.out 6
      go_wp2
      go_meet
      case rel => exact ⟨_, (decide (a2_1 < a1_2)), (by first | rfl | (simp; done) | (simp [*]; done)), H', ⟨by have := HJ3.out; first | omega | exact Nat.le_refl _⟩, ⟨by (with_reducible repeat (first | refine blk_drewN ?_ _ | refine blk_drew ?_ | refine blk_alloc ?_ _)); exact BK223.out⟩, ⟨by (with_reducible repeat (first | refine blk_drewN ?_ _ | refine blk_drew ?_ | refine blk_alloc ?_ _)); exact BK224.out⟩, ⟨by (with_reducible repeat (first | refine blk_drewN ?_ _ | refine blk_drew ?_ | refine blk_alloc ?_ _)); exact BK225.out⟩, ⟨by (with_reducible repeat (first | refine blk_drewN ?_ _ | refine blk_drew ?_ | refine blk_alloc ?_ _)); exact BK226.out⟩, ⟨by repeat (first | (with_reducible first | exact HB.out | apply below_alloc | apply pw_below_drewN | apply below_drew1 | refine below_set ?_ GE223.out | refine below_set ?_ GE224.out | refine below_set ?_ GE225.out | refine below_set ?_ GE226.out) | exact HB.out)⟩⟩
     ·rw [if_neg c68] at H
      have c68b0 : (a1_0 == 1) = false := beq_eq_false_iff_ne.mpr c68
      have c68b1 : (a1_0 != 1) = true := bne_iff_ne.mpr c68
      (first | rw [c68b0] | (simp only [i64_w, i32_w]; rw [c68b0]) | skip)
      have H' := Aside0.mk H
      clear H
      have hnb76 := NB224_223.out
      have hnc76 := NB223_224.out
      have hnb77 := NB224_225.out
      have hnc77 := NB225_224.out
      have hnb78 := NB224_226.out
      have hnc78 := NB226_224.out
      have hcz79_0 : wc.cell? ⟨gb224, 0, none⟩ = some (.int .i64 a1_0) := (blk_cell BK224.out 0).trans rfl
      have hcz79_1 : wc.cell? ⟨gb224, 1, none⟩ = some (.int .i64 a1_1) := (blk_cell BK224.out 1).trans rfl
      have hcz79_2 : wc.cell? ⟨gb224, 2, none⟩ = some (.int .i64 a1_2) := (blk_cell BK224.out 2).trans rfl
      have hcz79_3 : wc.cell? ⟨gb224, 3, none⟩ = some (.int .i64 a1_3) := (blk_cell BK224.out 3).trans rfl
      have hcz79_4 : wc.cell? ⟨gb224, 4, none⟩ = some (.int .i64 a1_4) := (blk_cell BK224.out 4).trans rfl
      have hcz79_5 : wc.cell? ⟨gb224, 5, none⟩ = some (.int .i64 a1_5) := (blk_cell BK224.out 5).trans rfl
      have hcz79_6 : wc.cell? ⟨gb224, 6, none⟩ = some (.int .i64 a1_6) := (blk_cell BK224.out 6).trans rfl
      have hcz79_7 : wc.cell? ⟨gb224, 7, none⟩ = some (.string a1_7) := (blk_cell BK224.out 7).trans rfl
      have hfz79_0 := blk_frozen BK224.out 0
      have hfz79_1 := blk_frozen BK224.out 1
      have hfz79_2 := blk_frozen BK224.out 2
      have hfz79_3 := blk_frozen BK224.out 3
      have hfz79_4 := blk_frozen BK224.out 4
      have hfz79_5 := blk_frozen BK224.out 5
      have hfz79_6 := blk_frozen BK224.out 6
      have hfz79_7 := blk_frozen BK224.out 7
      go_wp2
      go_meet
      case rel => exact ⟨_, (false), (by first | rfl | (simp; done) | (simp [*]; done)), H', ⟨by have := HJ3.out; first | omega | exact Nat.le_refl _⟩, ⟨by (with_reducible repeat (first | refine blk_drewN ?_ _ | refine blk_drew ?_ | refine blk_alloc ?_ _)); exact BK223.out⟩, ⟨by (with_reducible repeat (first | refine blk_drewN ?_ _ | refine blk_drew ?_ | refine blk_alloc ?_ _)); exact BK224.out⟩, ⟨by (with_reducible repeat (first | refine blk_drewN ?_ _ | refine blk_drew ?_ | refine blk_alloc ?_ _)); exact BK225.out⟩, ⟨by (with_reducible repeat (first | refine blk_drewN ?_ _ | refine blk_drew ?_ | refine blk_alloc ?_ _)); exact BK226.out⟩, ⟨by repeat (first | (with_reducible first | exact HB.out | apply below_alloc | apply pw_below_drewN | apply below_drew1 | refine below_set ?_ GE223.out | refine below_set ?_ GE224.out | refine below_set ?_ GE225.out | refine below_set ?_ GE226.out) | exact HB.out)⟩⟩
    case rest =>
     clear HC67
     try clear c1
     try clear c2
     try clear p2
     try clear c3
     try clear c4
     try clear c5
     try clear c6
     try clear c7
     try clear c10
     try clear c10b0
     try clear c10b1
     try clear c12
     try clear c13
     try clear c13b0
     try clear c13b1
     try clear c14
     try clear c14b0
     try clear c15
     try clear c16
     try clear c17
     try clear c18
     try clear c20
     try clear c21
     try clear c25
     try clear c26
     try clear c27
     try clear c30
     try clear c31
     try clear c35
     try clear c36
     try clear c37
     try clear c40
     try clear c41
     try clear c45
     try clear c46
     try clear c47
     try clear c50
     try clear c51
     try clear c54
     try clear c55
     try clear c56
     try clear c59
     try clear c60
     try clear c61
     try clear c62
     try clear c64
     try clear c65
     try clear c68
     try clear c68b0
     try clear c68b1
     try clear c69
     try clear c70
     try clear c71
     try clear c73
     try clear c74
     try clear c76
     try clear c77
     try clear c78
     try clear hcz18_0
     try clear hcz18_1
     try clear hcz22_0
     try clear hcz22_1
     try clear hcz22_2
     try clear hcz22_3
     try clear hcz22_4
     try clear hcz22_5
     try clear hcz22_6
     try clear hcz24_0
     try clear hcz24_1
     try clear hcz24_2
     try clear hcz24_3
     try clear hcz24_4
     try clear hcz24_5
     try clear hcz24_6
     try clear hcz28_0
     try clear hcz28_1
     try clear hcz32_0
     try clear hcz32_1
     try clear hcz32_2
     try clear hcz32_3
     try clear hcz32_4
     try clear hcz32_5
     try clear hcz32_6
     try clear hcz34_0
     try clear hcz34_1
     try clear hcz34_2
     try clear hcz34_3
     try clear hcz34_4
     try clear hcz34_5
     try clear hcz34_6
     try clear hcz38_0
     try clear hcz38_1
     try clear hcz42_0
     try clear hcz42_1
     try clear hcz42_2
     try clear hcz42_3
     try clear hcz42_4
     try clear hcz42_5
     try clear hcz42_6
     try clear hcz44_0
     try clear hcz44_1
     try clear hcz44_2
     try clear hcz44_3
     try clear hcz44_4
     try clear hcz44_5
     try clear hcz44_6
     try clear hcz48_0
     try clear hcz48_1
     try clear hcz52_0
     try clear hcz52_1
     try clear hcz52_2
     try clear hcz52_3
     try clear hcz52_4
     try clear hcz52_5
     try clear hcz52_6
     try clear hcz57_0
     try clear hcz57_1
     try clear hcz63_0
     try clear hcz63_1
     try clear hcz63_2
     try clear hcz63_3
     try clear hcz63_4
     try clear hcz63_5
     try clear hcz63_6
     try clear hcz63_7
     try clear hcz66_0
     try clear hcz66_1
     try clear hcz66_2
     try clear hcz66_3
     try clear hcz66_4
     try clear hcz66_5
     try clear hcz66_6
     try clear hcz66_7
     try clear hcz72_0
     try clear hcz72_1
     try clear hcz72_2
     try clear hcz72_3
     try clear hcz72_4
     try clear hcz72_5
     try clear hcz72_6
     try clear hcz72_7
     try clear hcz75_0
     try clear hcz75_1
     try clear hcz75_2
     try clear hcz75_3
     try clear hcz75_4
     try clear hcz75_5
     try clear hcz75_6
     try clear hcz79_0
     try clear hcz79_1
     try clear hcz79_2
     try clear hcz79_3
     try clear hcz79_4
     try clear hcz79_5
     try clear hcz79_6
     try clear hcz79_7
     try clear hfz18_0
     try clear hfz18_1
     try clear hfz22_0
     try clear hfz22_1
     try clear hfz22_2
     try clear hfz22_3
     try clear hfz22_4
     try clear hfz22_5
     try clear hfz22_6
     try clear hfz24_0
     try clear hfz24_1
     try clear hfz24_2
     try clear hfz24_3
     try clear hfz24_4
     try clear hfz24_5
     try clear hfz24_6
     try clear hfz28_0
     try clear hfz28_1
     try clear hfz32_0
     try clear hfz32_1
     try clear hfz32_2
     try clear hfz32_3
     try clear hfz32_4
     try clear hfz32_5
     try clear hfz32_6
     try clear hfz34_0
     try clear hfz34_1
     try clear hfz34_2
     try clear hfz34_3
     try clear hfz34_4
     try clear hfz34_5
     try clear hfz34_6
     try clear hfz38_0
     try clear hfz38_1
     try clear hfz42_0
     try clear hfz42_1
     try clear hfz42_2
     try clear hfz42_3
     try clear hfz42_4
     try clear hfz42_5
     try clear hfz42_6
     try clear hfz44_0
     try clear hfz44_1
     try clear hfz44_2
     try clear hfz44_3
     try clear hfz44_4
     try clear hfz44_5
     try clear hfz44_6
     try clear hfz48_0
     try clear hfz48_1
     try clear hfz52_0
     try clear hfz52_1
     try clear hfz52_2
     try clear hfz52_3
     try clear hfz52_4
     try clear hfz52_5
     try clear hfz52_6
     try clear hfz57_0
     try clear hfz57_1
     try clear hfz63_0
     try clear hfz63_1
     try clear hfz63_2
     try clear hfz63_3
     try clear hfz63_4
     try clear hfz63_5
     try clear hfz63_6
     try clear hfz63_7
     try clear hfz66_0
     try clear hfz66_1
     try clear hfz66_2
     try clear hfz66_3
     try clear hfz66_4
     try clear hfz66_5
     try clear hfz66_6
     try clear hfz66_7
     try clear hfz72_0
     try clear hfz72_1
     try clear hfz72_2
     try clear hfz72_3
     try clear hfz72_4
     try clear hfz72_5
     try clear hfz72_6
     try clear hfz72_7
     try clear hfz75_0
     try clear hfz75_1
     try clear hfz75_2
     try clear hfz75_3
     try clear hfz75_4
     try clear hfz75_5
     try clear hfz75_6
     try clear hfz79_0
     try clear hfz79_1
     try clear hfz79_2
     try clear hfz79_3
     try clear hfz79_4
     try clear hfz79_5
     try clear hfz79_6
     try clear hfz79_7
     try clear p2
     obtain ⟨kq, x43_66, rfl, HA, HJ66, BK223, BK224, BK225, BK226, HB⟩ := hcut
     cases kq with
     | zero => exact absurd HA.out (by simp [signalbenchref20_Step.j1])
     | succ kj66 =>
      have H := HA.out
      clear HA
      simp only [signalbenchref20_Step.j1] at H
      by_cases c80 : x43_66 = true
      ·subst c80
       have H1 : (some (a1_0, a1_1, a1_2, a1_3, a1_4, a1_5, a1_6, a1_7, ([] : List (S27)))) = some (r1, r2, r3, r4, r5, r6, r7, r8, r9) := by rw [if_pos rfl] at H; exact H
       clear H
       have H := H1
       clear H1
       simp only [Option.some.injEq, Prod.mk.injEq] at H
       obtain ⟨rfl, rfl, rfl, rfl, rfl, rfl, rfl, rfl, rfl⟩ := H
       have hnb81 := NB224_223.out
       have hnc81 := NB223_224.out
       have hnb82 := NB224_225.out
       have hnc82 := NB225_224.out
       have hnb83 := NB224_226.out
       have hnc83 := NB226_224.out
       have hcz84_0 : wc.cell? ⟨gb224, 0, none⟩ = some (.int .i64 a1_0) := (blk_cell BK224.out 0).trans rfl
       have hcz84_1 : wc.cell? ⟨gb224, 1, none⟩ = some (.int .i64 a1_1) := (blk_cell BK224.out 1).trans rfl
       have hcz84_2 : wc.cell? ⟨gb224, 2, none⟩ = some (.int .i64 a1_2) := (blk_cell BK224.out 2).trans rfl
       have hcz84_3 : wc.cell? ⟨gb224, 3, none⟩ = some (.int .i64 a1_3) := (blk_cell BK224.out 3).trans rfl
       have hcz84_4 : wc.cell? ⟨gb224, 4, none⟩ = some (.int .i64 a1_4) := (blk_cell BK224.out 4).trans rfl
       have hcz84_5 : wc.cell? ⟨gb224, 5, none⟩ = some (.int .i64 a1_5) := (blk_cell BK224.out 5).trans rfl
       have hcz84_6 : wc.cell? ⟨gb224, 6, none⟩ = some (.int .i64 a1_6) := (blk_cell BK224.out 6).trans rfl
       have hcz84_7 : wc.cell? ⟨gb224, 7, none⟩ = some (.string a1_7) := (blk_cell BK224.out 7).trans rfl
       have hfz84_0 := blk_frozen BK224.out 0
       have hfz84_1 := blk_frozen BK224.out 1
       have hfz84_2 := blk_frozen BK224.out 2
       have hfz84_3 := blk_frozen BK224.out 3
       have hfz84_4 := blk_frozen BK224.out 4
       have hfz84_5 := blk_frozen BK224.out 5
       have hfz84_6 := blk_frozen BK224.out 6
       have hfz84_7 := blk_frozen BK224.out 7
       have hnb85 := NB226_223.out
       have hnc85 := NB223_226.out
       have hnb86 := NB226_225.out
       have hnc86 := NB225_226.out
       have hcz87_0 : wc.cell? ⟨gb226, 0, none⟩ = some (.int .i64 0) := (blk_cell BK226.out 0).trans rfl
       have hcz87_1 : wc.cell? ⟨gb226, 1, none⟩ = some (.int .i64 0) := (blk_cell BK226.out 1).trans rfl
       have hcz87_2 : wc.cell? ⟨gb226, 2, none⟩ = some (.int .i64 0) := (blk_cell BK226.out 2).trans rfl
       have hcz87_3 : wc.cell? ⟨gb226, 3, none⟩ = some (.int .i64 0) := (blk_cell BK226.out 3).trans rfl
       have hcz87_4 : wc.cell? ⟨gb226, 4, none⟩ = some (.int .i64 0) := (blk_cell BK226.out 4).trans rfl
       have hcz87_5 : wc.cell? ⟨gb226, 5, none⟩ = some (.int .i64 0) := (blk_cell BK226.out 5).trans rfl
       have hcz87_6 : wc.cell? ⟨gb226, 6, none⟩ = some (.int .i64 0) := (blk_cell BK226.out 6).trans rfl
       have hcz87_7 : wc.cell? ⟨gb226, 7, none⟩ = some (.string (⟨#[]⟩ : ByteArray)) := (blk_cell BK226.out 7).trans rfl
       have hfz87_0 := blk_frozen BK226.out 0
       have hfz87_1 := blk_frozen BK226.out 1
       have hfz87_2 := blk_frozen BK226.out 2
       have hfz87_3 := blk_frozen BK226.out 3
       have hfz87_4 := blk_frozen BK226.out 4
       have hfz87_5 := blk_frozen BK226.out 5
       have hfz87_6 := blk_frozen BK226.out 6
       have hfz87_7 := blk_frozen BK226.out 7
       go_wp2
       refine bodyPost_ret (results_ct rfl _ _ gb226 25 #[.int .i64 a1_0, .int .i64 a1_1, .int .i64 a1_2, .int .i64 a1_3, .int .i64 a1_4, .int .i64 a1_5, .int .i64 a1_6, .string a1_7] (0, 0) _ rfl (by (with_reducible repeat (first | refine blk_drewN ?_ _ | refine blk_drew ?_ | refine blk_alloc ?_ _)); refine blk_put (cs := #[.int .i64 a1_0, .int .i64 a1_1, .int .i64 a1_2, .int .i64 a1_3, .int .i64 a1_4, .int .i64 a1_5, .int .i64 a1_6, .string (⟨#[]⟩ : ByteArray)]) ?_ 7 _ rfl; (with_reducible repeat (first | refine blk_drewN ?_ _ | refine blk_drew ?_ | refine blk_alloc ?_ _)); refine blk_put (cs := #[.int .i64 a1_0, .int .i64 a1_1, .int .i64 a1_2, .int .i64 a1_3, .int .i64 a1_4, .int .i64 a1_5, .int .i64 0, .string (⟨#[]⟩ : ByteArray)]) ?_ 6 _ rfl; (with_reducible repeat (first | refine blk_drewN ?_ _ | refine blk_drew ?_ | refine blk_alloc ?_ _)); refine blk_put (cs := #[.int .i64 a1_0, .int .i64 a1_1, .int .i64 a1_2, .int .i64 a1_3, .int .i64 a1_4, .int .i64 0, .int .i64 0, .string (⟨#[]⟩ : ByteArray)]) ?_ 5 _ rfl; (with_reducible repeat (first | refine blk_drewN ?_ _ | refine blk_drew ?_ | refine blk_alloc ?_ _)); refine blk_put (cs := #[.int .i64 a1_0, .int .i64 a1_1, .int .i64 a1_2, .int .i64 a1_3, .int .i64 0, .int .i64 0, .int .i64 0, .string (⟨#[]⟩ : ByteArray)]) ?_ 4 _ rfl; (with_reducible repeat (first | refine blk_drewN ?_ _ | refine blk_drew ?_ | refine blk_alloc ?_ _)); refine blk_put (cs := #[.int .i64 a1_0, .int .i64 a1_1, .int .i64 a1_2, .int .i64 0, .int .i64 0, .int .i64 0, .int .i64 0, .string (⟨#[]⟩ : ByteArray)]) ?_ 3 _ rfl; (with_reducible repeat (first | refine blk_drewN ?_ _ | refine blk_drew ?_ | refine blk_alloc ?_ _)); refine blk_put (cs := #[.int .i64 a1_0, .int .i64 a1_1, .int .i64 0, .int .i64 0, .int .i64 0, .int .i64 0, .int .i64 0, .string (⟨#[]⟩ : ByteArray)]) ?_ 2 _ rfl; (with_reducible repeat (first | refine blk_drewN ?_ _ | refine blk_drew ?_ | refine blk_alloc ?_ _)); refine blk_put (cs := #[.int .i64 a1_0, .int .i64 0, .int .i64 0, .int .i64 0, .int .i64 0, .int .i64 0, .int .i64 0, .string (⟨#[]⟩ : ByteArray)]) ?_ 1 _ rfl; (with_reducible repeat (first | refine blk_drewN ?_ _ | refine blk_drew ?_ | refine blk_alloc ?_ _)); refine blk_put (cs := #[.int .i64 0, .int .i64 0, .int .i64 0, .int .i64 0, .int .i64 0, .int .i64 0, .int .i64 0, .string (⟨#[]⟩ : ByteArray)]) ?_ 0 _ rfl; (with_reducible repeat (first | refine blk_drewN ?_ _ | refine blk_drew ?_ | refine blk_alloc ?_ _)); exact BK226.out) Try.underlying25 rfl (by kernel_rfl)) rfl ?_
       exact ⟨_, by first | rfl | (simp [errW_none, errW_some] <;> rfl) | (simp [*, errW_none, errW_some] <;> rfl), by first | exact Kd.R_nil _ _ _ _ _ | exact Kd.N_nil _ _ _ _ _ | exact Kd.V_nil _ _ _ _ _ | exact Kd.Q_nil _ _ _ _ _ | exact Kd.S_nil _ _ _ _ _, by repeat (first | (with_reducible first | exact HB.out | apply below_alloc | apply pw_below_drewN | apply below_drew1 | refine below_set ?_ GE223.out | refine below_set ?_ GE224.out | refine below_set ?_ GE225.out | refine below_set ?_ GE226.out) | exact HB.out)⟩
      ·replace c80 := Bool.eq_false_iff.mpr c80
       subst c80
       have H1 : ((signalbenchref20_insert.f kj66 a0_0 a0_1 a1_4 a2_3).bind fun t230 => ((signalbenchref20_parity.f kj66 a0_0 a0_1 a1_4).bind fun t232 => (some (1, a1_1, a2_1, a1_3, t230, a1_5, a1_6, a1_7, (([(⟨a2_0, a2_1, a2_2, Int.tmod (wrap64 (a2_3 + t232)) 2, a2_4, a2_5, a2_6⟩ : S27)] : List (S27))))))) = some (r1, r2, r3, r4, r5, r6, r7, r8, r9) := by rw [if_neg (show ¬ (false = true) by decide)] at H; exact H
       clear H
       have H := H1
       clear H1
       replace H := Option.bind_eq_some_iff.mp H
       obtain ⟨t230, A880, H⟩ := H
       replace H : ((signalbenchref20_parity.f kj66 a0_0 a0_1 a1_4).bind fun t232 => (some (1, a1_1, a2_1, a1_3, t230, a1_5, a1_6, a1_7, (([(⟨a2_0, a2_1, a2_2, Int.tmod (wrap64 (a2_3 + t232)) 2, a2_4, a2_5, a2_6⟩ : S27)] : List (S27)))))) = some (r1, r2, r3, r4, r5, r6, r7, r8, r9) := H
       have A88 := Aside0.mk A880
       clear A880
       replace H := Option.bind_eq_some_iff.mp H
       obtain ⟨t232, A890, H⟩ := H
       replace H : (some (1, a1_1, a2_1, a1_3, t230, a1_5, a1_6, a1_7, (([(⟨a2_0, a2_1, a2_2, Int.tmod (wrap64 (a2_3 + t232)) 2, a2_4, a2_5, a2_6⟩ : S27)] : List (S27))))) = some (r1, r2, r3, r4, r5, r6, r7, r8, r9) := H
       have A89 := Aside0.mk A890
       clear A890
       obtain ⟨y233, hy233⟩ : ∃ y_ : List (S27), y_ = (([(⟨a2_0, a2_1, a2_2, Int.tmod (wrap64 (a2_3 + t232)) 2, a2_4, a2_5, a2_6⟩ : S27)] : List (S27))) := ⟨_, rfl⟩
       replace H : (some (1, a1_1, a2_1, a1_3, t230, a1_5, a1_6, a1_7, y233)) = some (r1, r2, r3, r4, r5, r6, r7, r8, r9) := by first | (rw [hy233]; with_reducible exact H) | (have H2_ := (Option.bind_some _ _).symm.trans H; rw [hy233]; with_reducible exact H2_) | (have H2_ := (Option.bind_some _ _).symm.trans H; with_reducible exact H2_) | with_reducible exact H | (rw [hy233]; exact H) | exact H
       have Ny233 := Aside0.mk hy233
       clear hy233
       simp only [Option.some.injEq, Prod.mk.injEq] at H
       obtain ⟨rfl, rfl, rfl, rfl, rfl, rfl, rfl, rfl, rfl⟩ := H
       have hnb90 := NB224_223.out
       have hnc90 := NB223_224.out
       have hnb91 := NB224_225.out
       have hnc91 := NB225_224.out
       have hnb92 := NB224_226.out
       have hnc92 := NB226_224.out
       have hcz93_0 : wc.cell? ⟨gb224, 0, none⟩ = some (.int .i64 a1_0) := (blk_cell BK224.out 0).trans rfl
       have hcz93_1 : wc.cell? ⟨gb224, 1, none⟩ = some (.int .i64 a1_1) := (blk_cell BK224.out 1).trans rfl
       have hcz93_2 : wc.cell? ⟨gb224, 2, none⟩ = some (.int .i64 a1_2) := (blk_cell BK224.out 2).trans rfl
       have hcz93_3 : wc.cell? ⟨gb224, 3, none⟩ = some (.int .i64 a1_3) := (blk_cell BK224.out 3).trans rfl
       have hcz93_4 : wc.cell? ⟨gb224, 4, none⟩ = some (.int .i64 a1_4) := (blk_cell BK224.out 4).trans rfl
       have hcz93_5 : wc.cell? ⟨gb224, 5, none⟩ = some (.int .i64 a1_5) := (blk_cell BK224.out 5).trans rfl
       have hcz93_6 : wc.cell? ⟨gb224, 6, none⟩ = some (.int .i64 a1_6) := (blk_cell BK224.out 6).trans rfl
       have hcz93_7 : wc.cell? ⟨gb224, 7, none⟩ = some (.string a1_7) := (blk_cell BK224.out 7).trans rfl
       have hfz93_0 := blk_frozen BK224.out 0
       have hfz93_1 := blk_frozen BK224.out 1
       have hfz93_2 := blk_frozen BK224.out 2
       have hfz93_3 := blk_frozen BK224.out 3
       have hfz93_4 := blk_frozen BK224.out 4
       have hfz93_5 := blk_frozen BK224.out 5
       have hfz93_6 := blk_frozen BK224.out 6
       have hfz93_7 := blk_frozen BK224.out 7
       try go_wp2_with (first | ((with_reducible refine gate_dst (N := 8) rfl ?_); refine box_event ?hg (N := 8) ?hd (cs := #[.int .i64 0, .int .i64 0, .int .i64 0, .int .i64 0, .int .i64 0, .int .i64 0, .int .i64 0, .string (⟨#[]⟩ : ByteArray)]) (t := 25) ?hr ?_; (case hd => rfl); (case hg => rfl); (case hr => first | (go_simp; done) | (go_simp; rfl)); intro gb229 hg w94 hbox hb; have n0_ := Aside0.mk (blkb BK223.out hb); have n1_ := Aside0.mk (blkb BK224.out hb); have n2_ := Aside0.mk (blkb BK225.out hb); have n3_ := Aside0.mk (blkb BK226.out hb); have n4_ := Aside0.mk (below_step (hbw HB.out) hb); have n5_ := Aside0.mk (hbox); have n6_ := Aside0.mk ((by rw [hg]; exact (below_size (hbw HB.out)) : w.heap.size ≤ gb229)); have n7_ := Aside0.mk ((by rw [hg]; exact (below_size (hbw HB.out)) : w.heap.size ≤ gb229)); have n8_ := Aside0.mk ((by rw [hg]; exact Nat.ne_of_lt (blkl BK223.out) : gb223 ≠ gb229)); have n9_ := Aside0.mk ((by rw [hg]; exact Nat.ne_of_gt (blkl BK223.out) : gb229 ≠ gb223)); have n10_ := Aside0.mk ((by rw [hg]; exact Nat.ne_of_lt (blkl BK224.out) : gb224 ≠ gb229)); have n11_ := Aside0.mk ((by rw [hg]; exact Nat.ne_of_gt (blkl BK224.out) : gb229 ≠ gb224)); have n12_ := Aside0.mk ((by rw [hg]; exact Nat.ne_of_lt (blkl BK225.out) : gb225 ≠ gb229)); have n13_ := Aside0.mk ((by rw [hg]; exact Nat.ne_of_gt (blkl BK225.out) : gb229 ≠ gb225)); have n14_ := Aside0.mk ((by rw [hg]; exact Nat.ne_of_lt (blkl BK226.out) : gb226 ≠ gb229)); have n15_ := Aside0.mk ((by rw [hg]; exact Nat.ne_of_gt (blkl BK226.out) : gb229 ≠ gb226)); clear BK223; clear BK224; clear BK225; clear BK226; clear HB; have BK223 := n0_; have BK224 := n1_; have BK225 := n2_; have BK226 := n3_; have HB := n4_; have BK229 := n5_; have GW229 := n6_; have GE229 := n7_; have NB223_229 := n8_; have NB229_223 := n9_; have NB224_229 := n10_; have NB229_224 := n11_; have NB225_229 := n12_; have NB229_225 := n13_; have NB226_229 := n14_; have NB229_226 := n15_; clear n0_ n1_ n2_ n3_ n4_ n5_ n6_ n7_ n8_ n9_ n10_ n11_ n12_ n13_ n14_ n15_; clear hb hbox hg; have hnb95 := NB229_223.out; have hnc95 := NB223_229.out; have hnb96 := NB229_224.out; have hnc96 := NB224_229.out; have hnb97 := NB229_225.out; have hnc97 := NB225_229.out; have hnb98 := NB229_226.out; have hnc98 := NB226_229.out; have hcz99_0 : w94.cell? ⟨gb229, 0, none⟩ = some (.int .i64 0) := (blk_cell BK229.out 0).trans rfl; have hcz99_1 : w94.cell? ⟨gb229, 1, none⟩ = some (.int .i64 0) := (blk_cell BK229.out 1).trans rfl; have hcz99_2 : w94.cell? ⟨gb229, 2, none⟩ = some (.int .i64 0) := (blk_cell BK229.out 2).trans rfl; have hcz99_3 : w94.cell? ⟨gb229, 3, none⟩ = some (.int .i64 0) := (blk_cell BK229.out 3).trans rfl; have hcz99_4 : w94.cell? ⟨gb229, 4, none⟩ = some (.int .i64 0) := (blk_cell BK229.out 4).trans rfl; have hcz99_5 : w94.cell? ⟨gb229, 5, none⟩ = some (.int .i64 0) := (blk_cell BK229.out 5).trans rfl; have hcz99_6 : w94.cell? ⟨gb229, 6, none⟩ = some (.int .i64 0) := (blk_cell BK229.out 6).trans rfl; have hcz99_7 : w94.cell? ⟨gb229, 7, none⟩ = some (.string (⟨#[]⟩ : ByteArray)) := (blk_cell BK229.out 7).trans rfl; have hfz99_0 := blk_frozen BK229.out 0; have hfz99_1 := blk_frozen BK229.out 1; have hfz99_2 := blk_frozen BK229.out 2; have hfz99_3 := blk_frozen BK229.out 3; have hfz99_4 := blk_frozen BK229.out 4; have hfz99_5 := blk_frozen BK229.out 5; have hfz99_6 := blk_frozen BK229.out 6; have hfz99_7 := blk_frozen BK229.out 7; have hnb100 := NB225_223.out; have hnc100 := NB223_225.out; have hnb101 := NB225_226.out; have hnc101 := NB226_225.out; have hcz102_0 : w94.cell? ⟨gb225, 0, none⟩ = some (.int .i64 a2_0) := (blk_cell BK225.out 0).trans rfl; have hcz102_1 : w94.cell? ⟨gb225, 1, none⟩ = some (.int .i64 a2_1) := (blk_cell BK225.out 1).trans rfl; have hcz102_2 : w94.cell? ⟨gb225, 2, none⟩ = some (.int .i64 a2_2) := (blk_cell BK225.out 2).trans rfl; have hcz102_3 : w94.cell? ⟨gb225, 3, none⟩ = some (.int .i64 a2_3) := (blk_cell BK225.out 3).trans rfl; have hcz102_4 : w94.cell? ⟨gb225, 4, none⟩ = some (.int .i64 a2_4) := (blk_cell BK225.out 4).trans rfl; have hcz102_5 : w94.cell? ⟨gb225, 5, none⟩ = some (.string a2_5) := (blk_cell BK225.out 5).trans rfl; have hcz102_6 : w94.cell? ⟨gb225, 6, none⟩ = some (.int .i64 a2_6) := (blk_cell BK225.out 6).trans rfl; have hfz102_0 := blk_frozen BK225.out 0; have hfz102_1 := blk_frozen BK225.out 1; have hfz102_2 := blk_frozen BK225.out 2; have hfz102_3 := blk_frozen BK225.out 3; have hfz102_4 := blk_frozen BK225.out 4; have hfz102_5 := blk_frozen BK225.out 5; have hfz102_6 := blk_frozen BK225.out 6; have hnb103 := NB223_226.out; have hnc103 := NB226_223.out; have hcz104_0 : w94.cell? ⟨gb223, 0, none⟩ = some (.int .i64 a0_0) := (blk_cell BK223.out 0).trans rfl; have hcz104_1 : w94.cell? ⟨gb223, 1, none⟩ = some (.int .i64 a0_1) := (blk_cell BK223.out 1).trans rfl; have hfz104_0 := blk_frozen BK223.out 0; have hfz104_1 := blk_frozen BK223.out 1; have hcz105_0 : w94.cell? ⟨gb224, 0, none⟩ = some (.int .i64 a1_0) := (blk_cell BK224.out 0).trans rfl; have hcz105_1 : w94.cell? ⟨gb224, 1, none⟩ = some (.int .i64 a1_1) := (blk_cell BK224.out 1).trans rfl; have hcz105_2 : w94.cell? ⟨gb224, 2, none⟩ = some (.int .i64 a1_2) := (blk_cell BK224.out 2).trans rfl; have hcz105_3 : w94.cell? ⟨gb224, 3, none⟩ = some (.int .i64 a1_3) := (blk_cell BK224.out 3).trans rfl; have hcz105_4 : w94.cell? ⟨gb224, 4, none⟩ = some (.int .i64 a1_4) := (blk_cell BK224.out 4).trans rfl; have hcz105_5 : w94.cell? ⟨gb224, 5, none⟩ = some (.int .i64 a1_5) := (blk_cell BK224.out 5).trans rfl; have hcz105_6 : w94.cell? ⟨gb224, 6, none⟩ = some (.int .i64 a1_6) := (blk_cell BK224.out 6).trans rfl; have hcz105_7 : w94.cell? ⟨gb224, 7, none⟩ = some (.string a1_7) := (blk_cell BK224.out 7).trans rfl; have hfz105_0 := blk_frozen BK224.out 0; have hfz105_1 := blk_frozen BK224.out 1; have hfz105_2 := blk_frozen BK224.out 2; have hfz105_3 := blk_frozen BK224.out 3; have hfz105_4 := blk_frozen BK224.out 4; have hfz105_5 := blk_frozen BK224.out 5; have hfz105_6 := blk_frozen BK224.out 6; have hfz105_7 := blk_frozen BK224.out 7) | ((with_reducible refine gate_callee (f := 33) rfl ?_); refine goesL_ (some 55) rfl rfl Try.func33 (by kernel_rfl) rfl #[.agg #[.int .i64 a0_0, .int .i64 a0_1], .int .i64 a1_4, .int .i64 a2_3] rfl (by (try simp only [List.map_toArray, List.map_cons, List.map_nil]); first | done | rfl | (simp only [List.length_drop, List.length_take]; rfl)) ?_; (with_reducible refine (signalbenchref20_insert.calls kj66 a0_0 a0_1 a1_4 a2_3 t230 _ A88.out).mono ?_); rintro e w106 ⟨rfl, hb⟩; refine ⟨_, rfl, ?_⟩; have n0_ := Aside0.mk (blk_below (g := gb223) (o := .cells #[.int .i64 a0_0, .int .i64 a0_1] 23 (0, 0)) (by (with_reducible repeat (first | refine blk_drewN ?_ _ | refine blk_drew ?_ | refine blk_alloc ?_ _)); refine blk_far ?_ NB223_229.out _; (with_reducible repeat (first | refine blk_drewN ?_ _ | refine blk_drew ?_ | refine blk_alloc ?_ _)); refine blk_far ?_ NB223_229.out _; (with_reducible repeat (first | refine blk_drewN ?_ _ | refine blk_drew ?_ | refine blk_alloc ?_ _)); refine blk_far ?_ NB223_229.out _; (with_reducible repeat (first | refine blk_drewN ?_ _ | refine blk_drew ?_ | refine blk_alloc ?_ _)); refine blk_far ?_ NB223_229.out _; (with_reducible repeat (first | refine blk_drewN ?_ _ | refine blk_drew ?_ | refine blk_alloc ?_ _)); refine blk_far ?_ NB223_229.out _; (with_reducible repeat (first | refine blk_drewN ?_ _ | refine blk_drew ?_ | refine blk_alloc ?_ _)); refine blk_far ?_ NB223_229.out _; (with_reducible repeat (first | refine blk_drewN ?_ _ | refine blk_drew ?_ | refine blk_alloc ?_ _)); refine blk_far ?_ NB223_229.out _; (with_reducible repeat (first | refine blk_drewN ?_ _ | refine blk_drew ?_ | refine blk_alloc ?_ _)); refine blk_far ?_ NB223_229.out _; (with_reducible repeat (first | refine blk_drewN ?_ _ | refine blk_drew ?_ | refine blk_alloc ?_ _)); refine blk_far ?_ NB223_229.out _; (with_reducible repeat (first | refine blk_drewN ?_ _ | refine blk_drew ?_ | refine blk_alloc ?_ _)); refine blk_far ?_ NB223_229.out _; (with_reducible repeat (first | refine blk_drewN ?_ _ | refine blk_drew ?_ | refine blk_alloc ?_ _)); exact BK223.out) hb); have n1_ := Aside0.mk (blk_below (g := gb224) (o := .cells #[.int .i64 a1_0, .int .i64 a1_1, .int .i64 a1_2, .int .i64 a1_3, .int .i64 a1_4, .int .i64 a1_5, .int .i64 a1_6, .string a1_7] 25 (0, 0)) (by (with_reducible repeat (first | refine blk_drewN ?_ _ | refine blk_drew ?_ | refine blk_alloc ?_ _)); refine blk_far ?_ NB224_229.out _; (with_reducible repeat (first | refine blk_drewN ?_ _ | refine blk_drew ?_ | refine blk_alloc ?_ _)); refine blk_far ?_ NB224_229.out _; (with_reducible repeat (first | refine blk_drewN ?_ _ | refine blk_drew ?_ | refine blk_alloc ?_ _)); refine blk_far ?_ NB224_229.out _; (with_reducible repeat (first | refine blk_drewN ?_ _ | refine blk_drew ?_ | refine blk_alloc ?_ _)); refine blk_far ?_ NB224_229.out _; (with_reducible repeat (first | refine blk_drewN ?_ _ | refine blk_drew ?_ | refine blk_alloc ?_ _)); refine blk_far ?_ NB224_229.out _; (with_reducible repeat (first | refine blk_drewN ?_ _ | refine blk_drew ?_ | refine blk_alloc ?_ _)); refine blk_far ?_ NB224_229.out _; (with_reducible repeat (first | refine blk_drewN ?_ _ | refine blk_drew ?_ | refine blk_alloc ?_ _)); refine blk_far ?_ NB224_229.out _; (with_reducible repeat (first | refine blk_drewN ?_ _ | refine blk_drew ?_ | refine blk_alloc ?_ _)); refine blk_far ?_ NB224_229.out _; (with_reducible repeat (first | refine blk_drewN ?_ _ | refine blk_drew ?_ | refine blk_alloc ?_ _)); refine blk_far ?_ NB224_229.out _; (with_reducible repeat (first | refine blk_drewN ?_ _ | refine blk_drew ?_ | refine blk_alloc ?_ _)); refine blk_far ?_ NB224_229.out _; (with_reducible repeat (first | refine blk_drewN ?_ _ | refine blk_drew ?_ | refine blk_alloc ?_ _)); exact BK224.out) hb); have n2_ := Aside0.mk (blk_below (g := gb225) (o := .cells #[.int .i64 a2_0, .int .i64 a2_1, .int .i64 a2_2, .int .i64 a2_3, .int .i64 a2_4, .string a2_5, .int .i64 a2_6] 27 (0, 0)) (by (with_reducible repeat (first | refine blk_drewN ?_ _ | refine blk_drew ?_ | refine blk_alloc ?_ _)); refine blk_far ?_ NB225_229.out _; (with_reducible repeat (first | refine blk_drewN ?_ _ | refine blk_drew ?_ | refine blk_alloc ?_ _)); refine blk_far ?_ NB225_229.out _; (with_reducible repeat (first | refine blk_drewN ?_ _ | refine blk_drew ?_ | refine blk_alloc ?_ _)); refine blk_far ?_ NB225_229.out _; (with_reducible repeat (first | refine blk_drewN ?_ _ | refine blk_drew ?_ | refine blk_alloc ?_ _)); refine blk_far ?_ NB225_229.out _; (with_reducible repeat (first | refine blk_drewN ?_ _ | refine blk_drew ?_ | refine blk_alloc ?_ _)); refine blk_far ?_ NB225_229.out _; (with_reducible repeat (first | refine blk_drewN ?_ _ | refine blk_drew ?_ | refine blk_alloc ?_ _)); refine blk_far ?_ NB225_229.out _; (with_reducible repeat (first | refine blk_drewN ?_ _ | refine blk_drew ?_ | refine blk_alloc ?_ _)); refine blk_far ?_ NB225_229.out _; (with_reducible repeat (first | refine blk_drewN ?_ _ | refine blk_drew ?_ | refine blk_alloc ?_ _)); refine blk_far ?_ NB225_229.out _; (with_reducible repeat (first | refine blk_drewN ?_ _ | refine blk_drew ?_ | refine blk_alloc ?_ _)); refine blk_far ?_ NB225_229.out _; (with_reducible repeat (first | refine blk_drewN ?_ _ | refine blk_drew ?_ | refine blk_alloc ?_ _)); refine blk_far ?_ NB225_229.out _; (with_reducible repeat (first | refine blk_drewN ?_ _ | refine blk_drew ?_ | refine blk_alloc ?_ _)); exact BK225.out) hb); have n3_ := Aside0.mk (blk_below (g := gb226) (o := .cells #[.int .i64 0, .int .i64 0, .int .i64 0, .int .i64 0, .int .i64 0, .int .i64 0, .int .i64 0, .string (⟨#[]⟩ : ByteArray)] 25 (0, 0)) (by (with_reducible repeat (first | refine blk_drewN ?_ _ | refine blk_drew ?_ | refine blk_alloc ?_ _)); refine blk_far ?_ NB226_229.out _; (with_reducible repeat (first | refine blk_drewN ?_ _ | refine blk_drew ?_ | refine blk_alloc ?_ _)); refine blk_far ?_ NB226_229.out _; (with_reducible repeat (first | refine blk_drewN ?_ _ | refine blk_drew ?_ | refine blk_alloc ?_ _)); refine blk_far ?_ NB226_229.out _; (with_reducible repeat (first | refine blk_drewN ?_ _ | refine blk_drew ?_ | refine blk_alloc ?_ _)); refine blk_far ?_ NB226_229.out _; (with_reducible repeat (first | refine blk_drewN ?_ _ | refine blk_drew ?_ | refine blk_alloc ?_ _)); refine blk_far ?_ NB226_229.out _; (with_reducible repeat (first | refine blk_drewN ?_ _ | refine blk_drew ?_ | refine blk_alloc ?_ _)); refine blk_far ?_ NB226_229.out _; (with_reducible repeat (first | refine blk_drewN ?_ _ | refine blk_drew ?_ | refine blk_alloc ?_ _)); refine blk_far ?_ NB226_229.out _; (with_reducible repeat (first | refine blk_drewN ?_ _ | refine blk_drew ?_ | refine blk_alloc ?_ _)); refine blk_far ?_ NB226_229.out _; (with_reducible repeat (first | refine blk_drewN ?_ _ | refine blk_drew ?_ | refine blk_alloc ?_ _)); refine blk_far ?_ NB226_229.out _; (with_reducible repeat (first | refine blk_drewN ?_ _ | refine blk_drew ?_ | refine blk_alloc ?_ _)); refine blk_far ?_ NB226_229.out _; (with_reducible repeat (first | refine blk_drewN ?_ _ | refine blk_drew ?_ | refine blk_alloc ?_ _)); exact BK226.out) hb); have n4_ := Aside0.mk (blk_below (g := gb229) (o := .cells #[.int .i64 1, .int .i64 a1_1, .int .i64 a2_1, .int .i64 a1_3, .int .i64 a1_4, .int .i64 a1_5, .int .i64 a1_6, .string a1_7] 25 (0, 0)) (by (with_reducible repeat (first | refine blk_drewN ?_ _ | refine blk_drew ?_ | refine blk_alloc ?_ _)); refine blk_put (cs := #[.int .i64 1, .int .i64 a1_1, .int .i64 a1_2, .int .i64 a1_3, .int .i64 a1_4, .int .i64 a1_5, .int .i64 a1_6, .string a1_7]) ?_ 2 _ rfl; (with_reducible repeat (first | refine blk_drewN ?_ _ | refine blk_drew ?_ | refine blk_alloc ?_ _)); refine blk_put (cs := #[.int .i64 a1_0, .int .i64 a1_1, .int .i64 a1_2, .int .i64 a1_3, .int .i64 a1_4, .int .i64 a1_5, .int .i64 a1_6, .string a1_7]) ?_ 0 _ rfl; (with_reducible repeat (first | refine blk_drewN ?_ _ | refine blk_drew ?_ | refine blk_alloc ?_ _)); refine blk_put (cs := #[.int .i64 a1_0, .int .i64 a1_1, .int .i64 a1_2, .int .i64 a1_3, .int .i64 a1_4, .int .i64 a1_5, .int .i64 a1_6, .string (⟨#[]⟩ : ByteArray)]) ?_ 7 _ rfl; (with_reducible repeat (first | refine blk_drewN ?_ _ | refine blk_drew ?_ | refine blk_alloc ?_ _)); refine blk_put (cs := #[.int .i64 a1_0, .int .i64 a1_1, .int .i64 a1_2, .int .i64 a1_3, .int .i64 a1_4, .int .i64 a1_5, .int .i64 0, .string (⟨#[]⟩ : ByteArray)]) ?_ 6 _ rfl; (with_reducible repeat (first | refine blk_drewN ?_ _ | refine blk_drew ?_ | refine blk_alloc ?_ _)); refine blk_put (cs := #[.int .i64 a1_0, .int .i64 a1_1, .int .i64 a1_2, .int .i64 a1_3, .int .i64 a1_4, .int .i64 0, .int .i64 0, .string (⟨#[]⟩ : ByteArray)]) ?_ 5 _ rfl; (with_reducible repeat (first | refine blk_drewN ?_ _ | refine blk_drew ?_ | refine blk_alloc ?_ _)); refine blk_put (cs := #[.int .i64 a1_0, .int .i64 a1_1, .int .i64 a1_2, .int .i64 a1_3, .int .i64 0, .int .i64 0, .int .i64 0, .string (⟨#[]⟩ : ByteArray)]) ?_ 4 _ rfl; (with_reducible repeat (first | refine blk_drewN ?_ _ | refine blk_drew ?_ | refine blk_alloc ?_ _)); refine blk_put (cs := #[.int .i64 a1_0, .int .i64 a1_1, .int .i64 a1_2, .int .i64 0, .int .i64 0, .int .i64 0, .int .i64 0, .string (⟨#[]⟩ : ByteArray)]) ?_ 3 _ rfl; (with_reducible repeat (first | refine blk_drewN ?_ _ | refine blk_drew ?_ | refine blk_alloc ?_ _)); refine blk_put (cs := #[.int .i64 a1_0, .int .i64 a1_1, .int .i64 0, .int .i64 0, .int .i64 0, .int .i64 0, .int .i64 0, .string (⟨#[]⟩ : ByteArray)]) ?_ 2 _ rfl; (with_reducible repeat (first | refine blk_drewN ?_ _ | refine blk_drew ?_ | refine blk_alloc ?_ _)); refine blk_put (cs := #[.int .i64 a1_0, .int .i64 0, .int .i64 0, .int .i64 0, .int .i64 0, .int .i64 0, .int .i64 0, .string (⟨#[]⟩ : ByteArray)]) ?_ 1 _ rfl; (with_reducible repeat (first | refine blk_drewN ?_ _ | refine blk_drew ?_ | refine blk_alloc ?_ _)); refine blk_put (cs := #[.int .i64 0, .int .i64 0, .int .i64 0, .int .i64 0, .int .i64 0, .int .i64 0, .int .i64 0, .string (⟨#[]⟩ : ByteArray)]) ?_ 0 _ rfl; (with_reducible repeat (first | refine blk_drewN ?_ _ | refine blk_drew ?_ | refine blk_alloc ?_ _)); exact BK229.out) hb); have n5_ := Aside0.mk (below_step (hbw HB.out) hb); clear BK223; clear BK224; clear BK225; clear BK226; clear BK229; clear HB; have BK223 := n0_; have BK224 := n1_; have BK225 := n2_; have BK226 := n3_; have BK229 := n4_; have HB := n5_; clear n0_ n1_ n2_ n3_ n4_ n5_; (try clear hb); (try clear hb2); (try clear hk); (try clear hi); have hcz107_0 : w106.cell? ⟨gb229, 0, none⟩ = some (.int .i64 1) := (blk_cell BK229.out 0).trans rfl; have hcz107_1 : w106.cell? ⟨gb229, 1, none⟩ = some (.int .i64 a1_1) := (blk_cell BK229.out 1).trans rfl; have hcz107_2 : w106.cell? ⟨gb229, 2, none⟩ = some (.int .i64 a2_1) := (blk_cell BK229.out 2).trans rfl; have hcz107_3 : w106.cell? ⟨gb229, 3, none⟩ = some (.int .i64 a1_3) := (blk_cell BK229.out 3).trans rfl; have hcz107_4 : w106.cell? ⟨gb229, 4, none⟩ = some (.int .i64 a1_4) := (blk_cell BK229.out 4).trans rfl; have hcz107_5 : w106.cell? ⟨gb229, 5, none⟩ = some (.int .i64 a1_5) := (blk_cell BK229.out 5).trans rfl; have hcz107_6 : w106.cell? ⟨gb229, 6, none⟩ = some (.int .i64 a1_6) := (blk_cell BK229.out 6).trans rfl; have hcz107_7 : w106.cell? ⟨gb229, 7, none⟩ = some (.string a1_7) := (blk_cell BK229.out 7).trans rfl; have hfz107_0 := blk_frozen BK229.out 0; have hfz107_1 := blk_frozen BK229.out 1; have hfz107_2 := blk_frozen BK229.out 2; have hfz107_3 := blk_frozen BK229.out 3; have hfz107_4 := blk_frozen BK229.out 4; have hfz107_5 := blk_frozen BK229.out 5; have hfz107_6 := blk_frozen BK229.out 6; have hfz107_7 := blk_frozen BK229.out 7; have hcz108_0 : w106.cell? ⟨gb225, 0, none⟩ = some (.int .i64 a2_0) := (blk_cell BK225.out 0).trans rfl; have hcz108_1 : w106.cell? ⟨gb225, 1, none⟩ = some (.int .i64 a2_1) := (blk_cell BK225.out 1).trans rfl; have hcz108_2 : w106.cell? ⟨gb225, 2, none⟩ = some (.int .i64 a2_2) := (blk_cell BK225.out 2).trans rfl; have hcz108_3 : w106.cell? ⟨gb225, 3, none⟩ = some (.int .i64 a2_3) := (blk_cell BK225.out 3).trans rfl; have hcz108_4 : w106.cell? ⟨gb225, 4, none⟩ = some (.int .i64 a2_4) := (blk_cell BK225.out 4).trans rfl; have hcz108_5 : w106.cell? ⟨gb225, 5, none⟩ = some (.string a2_5) := (blk_cell BK225.out 5).trans rfl; have hcz108_6 : w106.cell? ⟨gb225, 6, none⟩ = some (.int .i64 a2_6) := (blk_cell BK225.out 6).trans rfl; have hfz108_0 := blk_frozen BK225.out 0; have hfz108_1 := blk_frozen BK225.out 1; have hfz108_2 := blk_frozen BK225.out 2; have hfz108_3 := blk_frozen BK225.out 3; have hfz108_4 := blk_frozen BK225.out 4; have hfz108_5 := blk_frozen BK225.out 5; have hfz108_6 := blk_frozen BK225.out 6) | ((with_reducible refine gate_dst (N := 9) rfl ?_); refine box_event ?hg (N := 9) ?hd (cs := #[.int .i64 0, .int .i64 0, .int .i64 0, .int .i64 0, .int .i64 0, .string (⟨#[]⟩ : ByteArray), .int .i64 0]) (t := 27) ?hr ?_; (case hd => rfl); (case hg => rfl); (case hr => first | (go_simp; done) | (go_simp; rfl)); intro gb231 hg w109 hbox hb; have n0_ := Aside0.mk (blk_below (g := gb223) (o := .cells #[.int .i64 a0_0, .int .i64 a0_1] 23 (0, 0)) (by (with_reducible repeat (first | refine blk_drewN ?_ _ | refine blk_drew ?_ | refine blk_alloc ?_ _)); refine blk_far ?_ NB223_229.out _; (with_reducible repeat (first | refine blk_drewN ?_ _ | refine blk_drew ?_ | refine blk_alloc ?_ _)); exact BK223.out) hb); have n1_ := Aside0.mk (blk_below (g := gb224) (o := .cells #[.int .i64 a1_0, .int .i64 a1_1, .int .i64 a1_2, .int .i64 a1_3, .int .i64 a1_4, .int .i64 a1_5, .int .i64 a1_6, .string a1_7] 25 (0, 0)) (by (with_reducible repeat (first | refine blk_drewN ?_ _ | refine blk_drew ?_ | refine blk_alloc ?_ _)); refine blk_far ?_ NB224_229.out _; (with_reducible repeat (first | refine blk_drewN ?_ _ | refine blk_drew ?_ | refine blk_alloc ?_ _)); exact BK224.out) hb); have n2_ := Aside0.mk (blk_below (g := gb225) (o := .cells #[.int .i64 a2_0, .int .i64 a2_1, .int .i64 a2_2, .int .i64 a2_3, .int .i64 a2_4, .string a2_5, .int .i64 a2_6] 27 (0, 0)) (by (with_reducible repeat (first | refine blk_drewN ?_ _ | refine blk_drew ?_ | refine blk_alloc ?_ _)); refine blk_far ?_ NB225_229.out _; (with_reducible repeat (first | refine blk_drewN ?_ _ | refine blk_drew ?_ | refine blk_alloc ?_ _)); exact BK225.out) hb); have n3_ := Aside0.mk (blk_below (g := gb226) (o := .cells #[.int .i64 0, .int .i64 0, .int .i64 0, .int .i64 0, .int .i64 0, .int .i64 0, .int .i64 0, .string (⟨#[]⟩ : ByteArray)] 25 (0, 0)) (by (with_reducible repeat (first | refine blk_drewN ?_ _ | refine blk_drew ?_ | refine blk_alloc ?_ _)); refine blk_far ?_ NB226_229.out _; (with_reducible repeat (first | refine blk_drewN ?_ _ | refine blk_drew ?_ | refine blk_alloc ?_ _)); exact BK226.out) hb); have n4_ := Aside0.mk (blk_below (g := gb229) (o := .cells #[.int .i64 1, .int .i64 a1_1, .int .i64 a2_1, .int .i64 a1_3, .int .i64 t230, .int .i64 a1_5, .int .i64 a1_6, .string a1_7] 25 (0, 0)) (by (with_reducible repeat (first | refine blk_drewN ?_ _ | refine blk_drew ?_ | refine blk_alloc ?_ _)); refine blk_put (cs := #[.int .i64 1, .int .i64 a1_1, .int .i64 a2_1, .int .i64 a1_3, .int .i64 a1_4, .int .i64 a1_5, .int .i64 a1_6, .string a1_7]) ?_ 4 _ rfl; (with_reducible repeat (first | refine blk_drewN ?_ _ | refine blk_drew ?_ | refine blk_alloc ?_ _)); exact BK229.out) hb); have n5_ := Aside0.mk (below_step (hbw HB.out) hb); have n6_ := Aside0.mk (hbox); have n7_ := Aside0.mk ((by rw [hg]; exact (below_size (hbw HB.out)) : w.heap.size ≤ gb231)); have n8_ := Aside0.mk ((by rw [hg]; exact (below_size (hbw HB.out)) : w.heap.size ≤ gb231)); have n9_ := Aside0.mk ((by rw [hg]; exact Nat.ne_of_lt (blk_lt (g := gb223) (o := .cells #[.int .i64 a0_0, .int .i64 a0_1] 23 (0, 0)) (by (with_reducible repeat (first | refine blk_drewN ?_ _ | refine blk_drew ?_ | refine blk_alloc ?_ _)); refine blk_far ?_ NB223_229.out _; (with_reducible repeat (first | refine blk_drewN ?_ _ | refine blk_drew ?_ | refine blk_alloc ?_ _)); exact BK223.out)) : gb223 ≠ gb231)); have n10_ := Aside0.mk ((by rw [hg]; exact Nat.ne_of_gt (blk_lt (g := gb223) (o := .cells #[.int .i64 a0_0, .int .i64 a0_1] 23 (0, 0)) (by (with_reducible repeat (first | refine blk_drewN ?_ _ | refine blk_drew ?_ | refine blk_alloc ?_ _)); refine blk_far ?_ NB223_229.out _; (with_reducible repeat (first | refine blk_drewN ?_ _ | refine blk_drew ?_ | refine blk_alloc ?_ _)); exact BK223.out)) : gb231 ≠ gb223)); have n11_ := Aside0.mk ((by rw [hg]; exact Nat.ne_of_lt (blk_lt (g := gb224) (o := .cells #[.int .i64 a1_0, .int .i64 a1_1, .int .i64 a1_2, .int .i64 a1_3, .int .i64 a1_4, .int .i64 a1_5, .int .i64 a1_6, .string a1_7] 25 (0, 0)) (by (with_reducible repeat (first | refine blk_drewN ?_ _ | refine blk_drew ?_ | refine blk_alloc ?_ _)); refine blk_far ?_ NB224_229.out _; (with_reducible repeat (first | refine blk_drewN ?_ _ | refine blk_drew ?_ | refine blk_alloc ?_ _)); exact BK224.out)) : gb224 ≠ gb231)); have n12_ := Aside0.mk ((by rw [hg]; exact Nat.ne_of_gt (blk_lt (g := gb224) (o := .cells #[.int .i64 a1_0, .int .i64 a1_1, .int .i64 a1_2, .int .i64 a1_3, .int .i64 a1_4, .int .i64 a1_5, .int .i64 a1_6, .string a1_7] 25 (0, 0)) (by (with_reducible repeat (first | refine blk_drewN ?_ _ | refine blk_drew ?_ | refine blk_alloc ?_ _)); refine blk_far ?_ NB224_229.out _; (with_reducible repeat (first | refine blk_drewN ?_ _ | refine blk_drew ?_ | refine blk_alloc ?_ _)); exact BK224.out)) : gb231 ≠ gb224)); have n13_ := Aside0.mk ((by rw [hg]; exact Nat.ne_of_lt (blk_lt (g := gb225) (o := .cells #[.int .i64 a2_0, .int .i64 a2_1, .int .i64 a2_2, .int .i64 a2_3, .int .i64 a2_4, .string a2_5, .int .i64 a2_6] 27 (0, 0)) (by (with_reducible repeat (first | refine blk_drewN ?_ _ | refine blk_drew ?_ | refine blk_alloc ?_ _)); refine blk_far ?_ NB225_229.out _; (with_reducible repeat (first | refine blk_drewN ?_ _ | refine blk_drew ?_ | refine blk_alloc ?_ _)); exact BK225.out)) : gb225 ≠ gb231)); have n14_ := Aside0.mk ((by rw [hg]; exact Nat.ne_of_gt (blk_lt (g := gb225) (o := .cells #[.int .i64 a2_0, .int .i64 a2_1, .int .i64 a2_2, .int .i64 a2_3, .int .i64 a2_4, .string a2_5, .int .i64 a2_6] 27 (0, 0)) (by (with_reducible repeat (first | refine blk_drewN ?_ _ | refine blk_drew ?_ | refine blk_alloc ?_ _)); refine blk_far ?_ NB225_229.out _; (with_reducible repeat (first | refine blk_drewN ?_ _ | refine blk_drew ?_ | refine blk_alloc ?_ _)); exact BK225.out)) : gb231 ≠ gb225)); have n15_ := Aside0.mk ((by rw [hg]; exact Nat.ne_of_lt (blk_lt (g := gb226) (o := .cells #[.int .i64 0, .int .i64 0, .int .i64 0, .int .i64 0, .int .i64 0, .int .i64 0, .int .i64 0, .string (⟨#[]⟩ : ByteArray)] 25 (0, 0)) (by (with_reducible repeat (first | refine blk_drewN ?_ _ | refine blk_drew ?_ | refine blk_alloc ?_ _)); refine blk_far ?_ NB226_229.out _; (with_reducible repeat (first | refine blk_drewN ?_ _ | refine blk_drew ?_ | refine blk_alloc ?_ _)); exact BK226.out)) : gb226 ≠ gb231)); have n16_ := Aside0.mk ((by rw [hg]; exact Nat.ne_of_gt (blk_lt (g := gb226) (o := .cells #[.int .i64 0, .int .i64 0, .int .i64 0, .int .i64 0, .int .i64 0, .int .i64 0, .int .i64 0, .string (⟨#[]⟩ : ByteArray)] 25 (0, 0)) (by (with_reducible repeat (first | refine blk_drewN ?_ _ | refine blk_drew ?_ | refine blk_alloc ?_ _)); refine blk_far ?_ NB226_229.out _; (with_reducible repeat (first | refine blk_drewN ?_ _ | refine blk_drew ?_ | refine blk_alloc ?_ _)); exact BK226.out)) : gb231 ≠ gb226)); have n17_ := Aside0.mk ((by rw [hg]; exact Nat.ne_of_lt (blk_lt (g := gb229) (o := .cells #[.int .i64 1, .int .i64 a1_1, .int .i64 a2_1, .int .i64 a1_3, .int .i64 t230, .int .i64 a1_5, .int .i64 a1_6, .string a1_7] 25 (0, 0)) (by (with_reducible repeat (first | refine blk_drewN ?_ _ | refine blk_drew ?_ | refine blk_alloc ?_ _)); refine blk_put (cs := #[.int .i64 1, .int .i64 a1_1, .int .i64 a2_1, .int .i64 a1_3, .int .i64 a1_4, .int .i64 a1_5, .int .i64 a1_6, .string a1_7]) ?_ 4 _ rfl; (with_reducible repeat (first | refine blk_drewN ?_ _ | refine blk_drew ?_ | refine blk_alloc ?_ _)); exact BK229.out)) : gb229 ≠ gb231)); have n18_ := Aside0.mk ((by rw [hg]; exact Nat.ne_of_gt (blk_lt (g := gb229) (o := .cells #[.int .i64 1, .int .i64 a1_1, .int .i64 a2_1, .int .i64 a1_3, .int .i64 t230, .int .i64 a1_5, .int .i64 a1_6, .string a1_7] 25 (0, 0)) (by (with_reducible repeat (first | refine blk_drewN ?_ _ | refine blk_drew ?_ | refine blk_alloc ?_ _)); refine blk_put (cs := #[.int .i64 1, .int .i64 a1_1, .int .i64 a2_1, .int .i64 a1_3, .int .i64 a1_4, .int .i64 a1_5, .int .i64 a1_6, .string a1_7]) ?_ 4 _ rfl; (with_reducible repeat (first | refine blk_drewN ?_ _ | refine blk_drew ?_ | refine blk_alloc ?_ _)); exact BK229.out)) : gb231 ≠ gb229)); clear BK223; clear BK224; clear BK225; clear BK226; clear BK229; clear HB; have BK223 := n0_; have BK224 := n1_; have BK225 := n2_; have BK226 := n3_; have BK229 := n4_; have HB := n5_; have BK231 := n6_; have GW231 := n7_; have GE231 := n8_; have NB223_231 := n9_; have NB231_223 := n10_; have NB224_231 := n11_; have NB231_224 := n12_; have NB225_231 := n13_; have NB231_225 := n14_; have NB226_231 := n15_; have NB231_226 := n16_; have NB229_231 := n17_; have NB231_229 := n18_; clear n0_ n1_ n2_ n3_ n4_ n5_ n6_ n7_ n8_ n9_ n10_ n11_ n12_ n13_ n14_ n15_ n16_ n17_ n18_; clear hb hbox hg; have hnb110 := NB231_223.out; have hnc110 := NB223_231.out; have hnb111 := NB231_224.out; have hnc111 := NB224_231.out; have hnb112 := NB231_225.out; have hnc112 := NB225_231.out; have hnb113 := NB231_226.out; have hnc113 := NB226_231.out; have hnb114 := NB231_229.out; have hnc114 := NB229_231.out; have hcz115_0 : w109.cell? ⟨gb231, 0, none⟩ = some (.int .i64 0) := (blk_cell BK231.out 0).trans rfl; have hcz115_1 : w109.cell? ⟨gb231, 1, none⟩ = some (.int .i64 0) := (blk_cell BK231.out 1).trans rfl; have hcz115_2 : w109.cell? ⟨gb231, 2, none⟩ = some (.int .i64 0) := (blk_cell BK231.out 2).trans rfl; have hcz115_3 : w109.cell? ⟨gb231, 3, none⟩ = some (.int .i64 0) := (blk_cell BK231.out 3).trans rfl; have hcz115_4 : w109.cell? ⟨gb231, 4, none⟩ = some (.int .i64 0) := (blk_cell BK231.out 4).trans rfl; have hcz115_5 : w109.cell? ⟨gb231, 5, none⟩ = some (.string (⟨#[]⟩ : ByteArray)) := (blk_cell BK231.out 5).trans rfl; have hcz115_6 : w109.cell? ⟨gb231, 6, none⟩ = some (.int .i64 0) := (blk_cell BK231.out 6).trans rfl; have hfz115_0 := blk_frozen BK231.out 0; have hfz115_1 := blk_frozen BK231.out 1; have hfz115_2 := blk_frozen BK231.out 2; have hfz115_3 := blk_frozen BK231.out 3; have hfz115_4 := blk_frozen BK231.out 4; have hfz115_5 := blk_frozen BK231.out 5; have hfz115_6 := blk_frozen BK231.out 6))
       have n0_ : Aside0 ((((((((w109.setCell ⟨gb231, 0, none⟩ (.int .i64 a2_0)).setCell ⟨gb231, 1, none⟩ (.int .i64 a2_1)).setCell ⟨gb231, 2, none⟩ (.int .i64 a2_2)).setCell ⟨gb231, 3, none⟩ (.int .i64 a2_3)).setCell ⟨gb231, 4, none⟩ (.int .i64 a2_4)).setCell ⟨gb231, 5, none⟩ (.string a2_5)).setCell ⟨gb231, 6, none⟩ (.int .i64 a2_6)).heap[gb223]? = some (.cells #[.int .i64 a0_0, .int .i64 a0_1] 23 (0, 0))) := ⟨by (with_reducible repeat (first | refine blk_drewN ?_ _ | refine blk_drew ?_ | refine blk_alloc ?_ _)); refine blk_far ?_ NB223_231.out _; (with_reducible repeat (first | refine blk_drewN ?_ _ | refine blk_drew ?_ | refine blk_alloc ?_ _)); refine blk_far ?_ NB223_231.out _; (with_reducible repeat (first | refine blk_drewN ?_ _ | refine blk_drew ?_ | refine blk_alloc ?_ _)); refine blk_far ?_ NB223_231.out _; (with_reducible repeat (first | refine blk_drewN ?_ _ | refine blk_drew ?_ | refine blk_alloc ?_ _)); refine blk_far ?_ NB223_231.out _; (with_reducible repeat (first | refine blk_drewN ?_ _ | refine blk_drew ?_ | refine blk_alloc ?_ _)); refine blk_far ?_ NB223_231.out _; (with_reducible repeat (first | refine blk_drewN ?_ _ | refine blk_drew ?_ | refine blk_alloc ?_ _)); refine blk_far ?_ NB223_231.out _; (with_reducible repeat (first | refine blk_drewN ?_ _ | refine blk_drew ?_ | refine blk_alloc ?_ _)); refine blk_far ?_ NB223_231.out _; (with_reducible repeat (first | refine blk_drewN ?_ _ | refine blk_drew ?_ | refine blk_alloc ?_ _)); exact BK223.out⟩
       have n1_ : Aside0 ((((((((w109.setCell ⟨gb231, 0, none⟩ (.int .i64 a2_0)).setCell ⟨gb231, 1, none⟩ (.int .i64 a2_1)).setCell ⟨gb231, 2, none⟩ (.int .i64 a2_2)).setCell ⟨gb231, 3, none⟩ (.int .i64 a2_3)).setCell ⟨gb231, 4, none⟩ (.int .i64 a2_4)).setCell ⟨gb231, 5, none⟩ (.string a2_5)).setCell ⟨gb231, 6, none⟩ (.int .i64 a2_6)).heap[gb224]? = some (.cells #[.int .i64 a1_0, .int .i64 a1_1, .int .i64 a1_2, .int .i64 a1_3, .int .i64 a1_4, .int .i64 a1_5, .int .i64 a1_6, .string a1_7] 25 (0, 0))) := ⟨by (with_reducible repeat (first | refine blk_drewN ?_ _ | refine blk_drew ?_ | refine blk_alloc ?_ _)); refine blk_far ?_ NB224_231.out _; (with_reducible repeat (first | refine blk_drewN ?_ _ | refine blk_drew ?_ | refine blk_alloc ?_ _)); refine blk_far ?_ NB224_231.out _; (with_reducible repeat (first | refine blk_drewN ?_ _ | refine blk_drew ?_ | refine blk_alloc ?_ _)); refine blk_far ?_ NB224_231.out _; (with_reducible repeat (first | refine blk_drewN ?_ _ | refine blk_drew ?_ | refine blk_alloc ?_ _)); refine blk_far ?_ NB224_231.out _; (with_reducible repeat (first | refine blk_drewN ?_ _ | refine blk_drew ?_ | refine blk_alloc ?_ _)); refine blk_far ?_ NB224_231.out _; (with_reducible repeat (first | refine blk_drewN ?_ _ | refine blk_drew ?_ | refine blk_alloc ?_ _)); refine blk_far ?_ NB224_231.out _; (with_reducible repeat (first | refine blk_drewN ?_ _ | refine blk_drew ?_ | refine blk_alloc ?_ _)); refine blk_far ?_ NB224_231.out _; (with_reducible repeat (first | refine blk_drewN ?_ _ | refine blk_drew ?_ | refine blk_alloc ?_ _)); exact BK224.out⟩
       have n2_ : Aside0 ((((((((w109.setCell ⟨gb231, 0, none⟩ (.int .i64 a2_0)).setCell ⟨gb231, 1, none⟩ (.int .i64 a2_1)).setCell ⟨gb231, 2, none⟩ (.int .i64 a2_2)).setCell ⟨gb231, 3, none⟩ (.int .i64 a2_3)).setCell ⟨gb231, 4, none⟩ (.int .i64 a2_4)).setCell ⟨gb231, 5, none⟩ (.string a2_5)).setCell ⟨gb231, 6, none⟩ (.int .i64 a2_6)).heap[gb225]? = some (.cells #[.int .i64 a2_0, .int .i64 a2_1, .int .i64 a2_2, .int .i64 a2_3, .int .i64 a2_4, .string a2_5, .int .i64 a2_6] 27 (0, 0))) := ⟨by (with_reducible repeat (first | refine blk_drewN ?_ _ | refine blk_drew ?_ | refine blk_alloc ?_ _)); refine blk_far ?_ NB225_231.out _; (with_reducible repeat (first | refine blk_drewN ?_ _ | refine blk_drew ?_ | refine blk_alloc ?_ _)); refine blk_far ?_ NB225_231.out _; (with_reducible repeat (first | refine blk_drewN ?_ _ | refine blk_drew ?_ | refine blk_alloc ?_ _)); refine blk_far ?_ NB225_231.out _; (with_reducible repeat (first | refine blk_drewN ?_ _ | refine blk_drew ?_ | refine blk_alloc ?_ _)); refine blk_far ?_ NB225_231.out _; (with_reducible repeat (first | refine blk_drewN ?_ _ | refine blk_drew ?_ | refine blk_alloc ?_ _)); refine blk_far ?_ NB225_231.out _; (with_reducible repeat (first | refine blk_drewN ?_ _ | refine blk_drew ?_ | refine blk_alloc ?_ _)); refine blk_far ?_ NB225_231.out _; (with_reducible repeat (first | refine blk_drewN ?_ _ | refine blk_drew ?_ | refine blk_alloc ?_ _)); refine blk_far ?_ NB225_231.out _; (with_reducible repeat (first | refine blk_drewN ?_ _ | refine blk_drew ?_ | refine blk_alloc ?_ _)); exact BK225.out⟩
       have n3_ : Aside0 ((((((((w109.setCell ⟨gb231, 0, none⟩ (.int .i64 a2_0)).setCell ⟨gb231, 1, none⟩ (.int .i64 a2_1)).setCell ⟨gb231, 2, none⟩ (.int .i64 a2_2)).setCell ⟨gb231, 3, none⟩ (.int .i64 a2_3)).setCell ⟨gb231, 4, none⟩ (.int .i64 a2_4)).setCell ⟨gb231, 5, none⟩ (.string a2_5)).setCell ⟨gb231, 6, none⟩ (.int .i64 a2_6)).heap[gb226]? = some (.cells #[.int .i64 0, .int .i64 0, .int .i64 0, .int .i64 0, .int .i64 0, .int .i64 0, .int .i64 0, .string (⟨#[]⟩ : ByteArray)] 25 (0, 0))) := ⟨by (with_reducible repeat (first | refine blk_drewN ?_ _ | refine blk_drew ?_ | refine blk_alloc ?_ _)); refine blk_far ?_ NB226_231.out _; (with_reducible repeat (first | refine blk_drewN ?_ _ | refine blk_drew ?_ | refine blk_alloc ?_ _)); refine blk_far ?_ NB226_231.out _; (with_reducible repeat (first | refine blk_drewN ?_ _ | refine blk_drew ?_ | refine blk_alloc ?_ _)); refine blk_far ?_ NB226_231.out _; (with_reducible repeat (first | refine blk_drewN ?_ _ | refine blk_drew ?_ | refine blk_alloc ?_ _)); refine blk_far ?_ NB226_231.out _; (with_reducible repeat (first | refine blk_drewN ?_ _ | refine blk_drew ?_ | refine blk_alloc ?_ _)); refine blk_far ?_ NB226_231.out _; (with_reducible repeat (first | refine blk_drewN ?_ _ | refine blk_drew ?_ | refine blk_alloc ?_ _)); refine blk_far ?_ NB226_231.out _; (with_reducible repeat (first | refine blk_drewN ?_ _ | refine blk_drew ?_ | refine blk_alloc ?_ _)); refine blk_far ?_ NB226_231.out _; (with_reducible repeat (first | refine blk_drewN ?_ _ | refine blk_drew ?_ | refine blk_alloc ?_ _)); exact BK226.out⟩
       have n4_ : Aside0 ((((((((w109.setCell ⟨gb231, 0, none⟩ (.int .i64 a2_0)).setCell ⟨gb231, 1, none⟩ (.int .i64 a2_1)).setCell ⟨gb231, 2, none⟩ (.int .i64 a2_2)).setCell ⟨gb231, 3, none⟩ (.int .i64 a2_3)).setCell ⟨gb231, 4, none⟩ (.int .i64 a2_4)).setCell ⟨gb231, 5, none⟩ (.string a2_5)).setCell ⟨gb231, 6, none⟩ (.int .i64 a2_6)).heap[gb229]? = some (.cells #[.int .i64 1, .int .i64 a1_1, .int .i64 a2_1, .int .i64 a1_3, .int .i64 t230, .int .i64 a1_5, .int .i64 a1_6, .string a1_7] 25 (0, 0))) := ⟨by (with_reducible repeat (first | refine blk_drewN ?_ _ | refine blk_drew ?_ | refine blk_alloc ?_ _)); refine blk_far ?_ NB229_231.out _; (with_reducible repeat (first | refine blk_drewN ?_ _ | refine blk_drew ?_ | refine blk_alloc ?_ _)); refine blk_far ?_ NB229_231.out _; (with_reducible repeat (first | refine blk_drewN ?_ _ | refine blk_drew ?_ | refine blk_alloc ?_ _)); refine blk_far ?_ NB229_231.out _; (with_reducible repeat (first | refine blk_drewN ?_ _ | refine blk_drew ?_ | refine blk_alloc ?_ _)); refine blk_far ?_ NB229_231.out _; (with_reducible repeat (first | refine blk_drewN ?_ _ | refine blk_drew ?_ | refine blk_alloc ?_ _)); refine blk_far ?_ NB229_231.out _; (with_reducible repeat (first | refine blk_drewN ?_ _ | refine blk_drew ?_ | refine blk_alloc ?_ _)); refine blk_far ?_ NB229_231.out _; (with_reducible repeat (first | refine blk_drewN ?_ _ | refine blk_drew ?_ | refine blk_alloc ?_ _)); refine blk_far ?_ NB229_231.out _; (with_reducible repeat (first | refine blk_drewN ?_ _ | refine blk_drew ?_ | refine blk_alloc ?_ _)); exact BK229.out⟩
       have n5_ : Aside0 ((((((((w109.setCell ⟨gb231, 0, none⟩ (.int .i64 a2_0)).setCell ⟨gb231, 1, none⟩ (.int .i64 a2_1)).setCell ⟨gb231, 2, none⟩ (.int .i64 a2_2)).setCell ⟨gb231, 3, none⟩ (.int .i64 a2_3)).setCell ⟨gb231, 4, none⟩ (.int .i64 a2_4)).setCell ⟨gb231, 5, none⟩ (.string a2_5)).setCell ⟨gb231, 6, none⟩ (.int .i64 a2_6)).heap[gb231]? = some (.cells #[.int .i64 a2_0, .int .i64 a2_1, .int .i64 a2_2, .int .i64 a2_3, .int .i64 a2_4, .string a2_5, .int .i64 a2_6] 27 (0, 0))) := ⟨by (with_reducible repeat (first | refine blk_drewN ?_ _ | refine blk_drew ?_ | refine blk_alloc ?_ _)); refine blk_put (cs := #[.int .i64 a2_0, .int .i64 a2_1, .int .i64 a2_2, .int .i64 a2_3, .int .i64 a2_4, .string a2_5, .int .i64 0]) ?_ 6 _ rfl; (with_reducible repeat (first | refine blk_drewN ?_ _ | refine blk_drew ?_ | refine blk_alloc ?_ _)); refine blk_put (cs := #[.int .i64 a2_0, .int .i64 a2_1, .int .i64 a2_2, .int .i64 a2_3, .int .i64 a2_4, .string (⟨#[]⟩ : ByteArray), .int .i64 0]) ?_ 5 _ rfl; (with_reducible repeat (first | refine blk_drewN ?_ _ | refine blk_drew ?_ | refine blk_alloc ?_ _)); refine blk_put (cs := #[.int .i64 a2_0, .int .i64 a2_1, .int .i64 a2_2, .int .i64 a2_3, .int .i64 0, .string (⟨#[]⟩ : ByteArray), .int .i64 0]) ?_ 4 _ rfl; (with_reducible repeat (first | refine blk_drewN ?_ _ | refine blk_drew ?_ | refine blk_alloc ?_ _)); refine blk_put (cs := #[.int .i64 a2_0, .int .i64 a2_1, .int .i64 a2_2, .int .i64 0, .int .i64 0, .string (⟨#[]⟩ : ByteArray), .int .i64 0]) ?_ 3 _ rfl; (with_reducible repeat (first | refine blk_drewN ?_ _ | refine blk_drew ?_ | refine blk_alloc ?_ _)); refine blk_put (cs := #[.int .i64 a2_0, .int .i64 a2_1, .int .i64 0, .int .i64 0, .int .i64 0, .string (⟨#[]⟩ : ByteArray), .int .i64 0]) ?_ 2 _ rfl; (with_reducible repeat (first | refine blk_drewN ?_ _ | refine blk_drew ?_ | refine blk_alloc ?_ _)); refine blk_put (cs := #[.int .i64 a2_0, .int .i64 0, .int .i64 0, .int .i64 0, .int .i64 0, .string (⟨#[]⟩ : ByteArray), .int .i64 0]) ?_ 1 _ rfl; (with_reducible repeat (first | refine blk_drewN ?_ _ | refine blk_drew ?_ | refine blk_alloc ?_ _)); refine blk_put (cs := #[.int .i64 0, .int .i64 0, .int .i64 0, .int .i64 0, .int .i64 0, .string (⟨#[]⟩ : ByteArray), .int .i64 0]) ?_ 0 _ rfl; (with_reducible repeat (first | refine blk_drewN ?_ _ | refine blk_drew ?_ | refine blk_alloc ?_ _)); exact BK231.out⟩
       have n6_ : Aside0 (Below w.heap.size w (((((((w109.setCell ⟨gb231, 0, none⟩ (.int .i64 a2_0)).setCell ⟨gb231, 1, none⟩ (.int .i64 a2_1)).setCell ⟨gb231, 2, none⟩ (.int .i64 a2_2)).setCell ⟨gb231, 3, none⟩ (.int .i64 a2_3)).setCell ⟨gb231, 4, none⟩ (.int .i64 a2_4)).setCell ⟨gb231, 5, none⟩ (.string a2_5)).setCell ⟨gb231, 6, none⟩ (.int .i64 a2_6))) := ⟨by repeat (first | (with_reducible first | exact HB.out | apply below_alloc | apply pw_below_drewN | apply below_drew1 | refine below_set ?_ GE223.out | refine below_set ?_ GE224.out | refine below_set ?_ GE225.out | refine below_set ?_ GE226.out | refine below_set ?_ GE229.out | refine below_set ?_ GE231.out) | exact HB.out)⟩
       (try clear BK223)
       (try clear BK224)
       (try clear BK225)
       (try clear BK226)
       (try clear BK229)
       (try clear BK231)
       (try clear HB)
       generalize (((((((w109.setCell ⟨gb231, 0, none⟩ (.int .i64 a2_0)).setCell ⟨gb231, 1, none⟩ (.int .i64 a2_1)).setCell ⟨gb231, 2, none⟩ (.int .i64 a2_2)).setCell ⟨gb231, 3, none⟩ (.int .i64 a2_3)).setCell ⟨gb231, 4, none⟩ (.int .i64 a2_4)).setCell ⟨gb231, 5, none⟩ (.string a2_5)).setCell ⟨gb231, 6, none⟩ (.int .i64 a2_6)) = w116 at n0_ n1_ n2_ n3_ n4_ n5_ n6_ ⊢
       have BK223 := n0_
       have BK224 := n1_
       have BK225 := n2_
       have BK226 := n3_
       have BK229 := n4_
       have BK231 := n5_
       have HB := n6_
       clear n0_ n1_ n2_ n3_ n4_ n5_ n6_
       have n0_ := Aside0.mk (blk_drew BK223.out)
       have n1_ := Aside0.mk (blk_drew BK224.out)
       have n2_ := Aside0.mk (blk_drew BK225.out)
       have n3_ := Aside0.mk (blk_drew BK226.out)
       have n4_ := Aside0.mk (blk_drew BK229.out)
       have n5_ := Aside0.mk (blk_drew BK231.out)
       have n6_ := Aside0.mk (below_drew1 HB.out)
       clear BK223
       clear BK224
       clear BK225
       clear BK226
       clear BK229
       clear BK231
       clear HB
       have BK223 := n0_
       have BK224 := n1_
       have BK225 := n2_
       have BK226 := n3_
       have BK229 := n4_
       have BK231 := n5_
       have HB := n6_
       clear n0_ n1_ n2_ n3_ n4_ n5_ n6_
       refine start_ (n := 10) (S := fun w' => w'.cell? ⟨gb225, 0, none⟩ = some (.int .i64 a2_0) ∧ w'.cell? ⟨gb225, 1, none⟩ = some (.int .i64 a2_1) ∧ w'.cell? ⟨gb225, 2, none⟩ = some (.int .i64 a2_2) ∧ w'.cell? ⟨gb225, 3, none⟩ = some (.int .i64 a2_3) ∧ w'.cell? ⟨gb225, 4, none⟩ = some (.int .i64 a2_4) ∧ w'.cell? ⟨gb225, 5, none⟩ = some (.string a2_5) ∧ w'.cell? ⟨gb225, 6, none⟩ = some (.int .i64 a2_6) ∧ w'.cell? ⟨gb223, 0, none⟩ = some (.int .i64 a0_0) ∧ w'.cell? ⟨gb223, 1, none⟩ = some (.int .i64 a0_1) ∧ w'.cell? ⟨gb224, 0, none⟩ = some (.int .i64 a1_0) ∧ w'.cell? ⟨gb224, 1, none⟩ = some (.int .i64 a1_1) ∧ w'.cell? ⟨gb224, 2, none⟩ = some (.int .i64 a1_2) ∧ w'.cell? ⟨gb224, 3, none⟩ = some (.int .i64 a1_3) ∧ w'.cell? ⟨gb224, 4, none⟩ = some (.int .i64 a1_4) ∧ w'.cell? ⟨gb224, 5, none⟩ = some (.int .i64 a1_5) ∧ w'.cell? ⟨gb224, 6, none⟩ = some (.int .i64 a1_6) ∧ w'.cell? ⟨gb224, 7, none⟩ = some (.string a1_7)) (ds := []) #[false, false, false, false, false, false, false, false, false, false] (by kernel_rfl) rfl rfl ⟨(blk_cell BK225.out 0).trans rfl, (blk_cell BK225.out 1).trans rfl, (blk_cell BK225.out 2).trans rfl, (blk_cell BK225.out 3).trans rfl, (blk_cell BK225.out 4).trans rfl, (blk_cell BK225.out 5).trans rfl, (blk_cell BK225.out 6).trans rfl, (blk_cell BK223.out 0).trans rfl, (blk_cell BK223.out 1).trans rfl, (blk_cell BK224.out 0).trans rfl, (blk_cell BK224.out 1).trans rfl, (blk_cell BK224.out 2).trans rfl, (blk_cell BK224.out 3).trans rfl, (blk_cell BK224.out 4).trans rfl, (blk_cell BK224.out 5).trans rfl, (blk_cell BK224.out 6).trans rfl, (blk_cell BK224.out 7).trans rfl⟩ (fun hHeld => ?_); refine with_tabW signalbenchref20_Step.tab10 signalbenchref20_Step.bits10 (fun HT_ HW_ => ?_)
       generalize w116.drew = w117 at BK223 BK224 BK225 BK226 BK229 BK231 HB hHeld ⊢
       refine pstep 0 (some 58) #[true, false, false, false, false, false, false, false, false, false] HT_.out ?_
       refine pstep 3 (some 61) #[true, false, false, true, false, false, false, false, false, false] HT_.out ?_
       refine take_ (i := 1) (N := some 59) (v := ?_) (a' := ?_) #[true, true, false, true, false, false, false, false, false, false] rfl rfl (take_ofW HT_.out HW_.out (by kernel_rfl)) (fun _ _ _ h => h) (Or.inl ⟨by rfl, ?_⟩) hHeld ?_ ?_
       rotate_left
       ·rintro w' ⟨s0, s1, s2, s3, s4, s5, s6, s7, s8, s9, s10, s11, s12, s13, s14, s15, s16⟩
        go_simp
        with_reducible rfl
       rotate_left
       ·simp only [Act.put, nrm]
        rfl
       refine take_ (i := 2) (N := some 60) (v := ?_) (a' := ?_) #[true, true, true, true, false, false, false, false, false, false] rfl rfl (take_ofW HT_.out HW_.out (by kernel_rfl)) (fun _ _ _ h => h) (Or.inl ⟨by rfl, ?_⟩) hHeld ?_ ?_
       rotate_left
       ·rintro w' ⟨s0, s1, s2, s3, s4, s5, s6, s7, s8, s9, s10, s11, s12, s13, s14, s15, s16⟩
        go_simp
        with_reducible rfl
       rotate_left
       ·simp only [Act.put, nrm]
        rfl
       refine take_ (i := 4) (N := some 62) (v := ?_) (a' := ?_) #[true, true, true, true, true, false, false, false, false, false] rfl rfl (take_ofW HT_.out HW_.out (by kernel_rfl)) (fun _ _ _ h => h) (Or.inl ⟨by rfl, ?_⟩) hHeld ?_ ?_
       rotate_left
       ·rintro w' ⟨s0, s1, s2, s3, s4, s5, s6, s7, s8, s9, s10, s11, s12, s13, s14, s15, s16⟩
        go_simp
        with_reducible rfl
       rotate_left
       ·simp only [Act.put, nrm]
        rfl
       refine one_ (i := 5) (N := some 63) #[true, true, true, true, true, true, false, false, false, false] rfl rfl (one_of HT_.out (by kernel_rfl)) (by decide) (fun K hK => ?_)
       refine goes_ Try.func34 (by kernel_rfl) rfl #[.agg #[.int .i64 a0_0, .int .i64 a0_1], .int .i64 a1_4] (by rfl) rfl rfl (by (try simp only [List.map_toArray, List.map_cons, List.map_nil]); first | done | rfl | (simp only [List.length_drop, List.length_take]; rfl)) ?_
       with_reducible refine (signalbenchref20_parity.calls kj66 a0_0 a0_1 a1_4 t232 _ A89.out).mono ?_
       rintro e w118 ⟨rfl, hb⟩
       refine ⟨_, rfl, ?_⟩
       have n0_ := Aside0.mk (blkb BK223.out hb)
       have n1_ := Aside0.mk (blkb BK224.out hb)
       have n2_ := Aside0.mk (blkb BK225.out hb)
       have n3_ := Aside0.mk (blkb BK226.out hb)
       have n4_ := Aside0.mk (blkb BK229.out hb)
       have n5_ := Aside0.mk (blkb BK231.out hb)
       have n6_ := Aside0.mk (below_step (hbw HB.out) hb)
       clear BK223
       clear BK224
       clear BK225
       clear BK226
       clear BK229
       clear BK231
       clear HB
       have BK223 := n0_
       have BK224 := n1_
       have BK225 := n2_
       have BK226 := n3_
       have BK229 := n4_
       have BK231 := n5_
       have HB := n6_
       clear n0_ n1_ n2_ n3_ n4_ n5_ n6_
       (try clear hb)
       (try clear hb2)
       (try clear hk)
       (try clear hi)
       refine hK.out _ _ ⟨(blk_cell BK225.out 0).trans rfl, (blk_cell BK225.out 1).trans rfl, (blk_cell BK225.out 2).trans rfl, (blk_cell BK225.out 3).trans rfl, (blk_cell BK225.out 4).trans rfl, (blk_cell BK225.out 5).trans rfl, (blk_cell BK225.out 6).trans rfl, (blk_cell BK223.out 0).trans rfl, (blk_cell BK223.out 1).trans rfl, (blk_cell BK224.out 0).trans rfl, (blk_cell BK224.out 1).trans rfl, (blk_cell BK224.out 2).trans rfl, (blk_cell BK224.out 3).trans rfl, (blk_cell BK224.out 4).trans rfl, (blk_cell BK224.out 5).trans rfl, (blk_cell BK224.out 6).trans rfl, (blk_cell BK224.out 7).trans rfl⟩ (fun hHeld => ?_)
       clear hK K
       refine norm_ (a' := ?_) ?_ ?_
       rotate_left
       ·show Act.put _ (some 63) _ = _
        simp only [Act.put, nrm]
        rfl
       refine pstep 6 (some 64) #[true, true, true, true, true, true, true, false, false, false] HT_.out ?_
       refine pstep 7 (some 65) #[true, true, true, true, true, true, true, true, false, false] HT_.out ?_
       refine pstep 8 (some 66) #[true, true, true, true, true, true, true, true, true, false] HT_.out ?_
       refine one_ (i := 9) (N := none) #[true, true, true, true, true, true, true, true, true, true] rfl rfl (one_of HT_.out (by kernel_rfl)) (by decide) (fun K hK => ?_)
       have hs119 : w118.cell? ⟨gb231, 3, none⟩ = some (.int .i64 a2_3) := (blk_cell BK231.out 3).trans rfl
       have hfs119 := blk_frozen BK231.out 3
       have hns119_0 := NB223_231.out
       have hns119_1 := NB224_231.out
       have hns119_2 := NB225_231.out
       have hns119_3 := NB226_231.out
       have hns119_4 := NB229_231.out
       have hms119_0 := NB231_223.out
       have hms119_1 := NB231_224.out
       have hms119_2 := NB231_225.out
       have hms119_3 := NB231_226.out
       have hms119_4 := NB231_229.out
       refine skip_ (w1 := ?_) (by rfl) rfl ?_ ?_
       rotate_left
       ·go_simp
        rfl
       refine hK.out _ _ ⟨((cell_far (p := ⟨gb231, _, none⟩) NB225_231.out _).trans (hHeld.1)), ((cell_far (p := ⟨gb231, _, none⟩) NB225_231.out _).trans (hHeld.2.1)), ((cell_far (p := ⟨gb231, _, none⟩) NB225_231.out _).trans (hHeld.2.2.1)), ((cell_far (p := ⟨gb231, _, none⟩) NB225_231.out _).trans (hHeld.2.2.2.1)), ((cell_far (p := ⟨gb231, _, none⟩) NB225_231.out _).trans (hHeld.2.2.2.2.1)), ((cell_far (p := ⟨gb231, _, none⟩) NB225_231.out _).trans (hHeld.2.2.2.2.2.1)), ((cell_far (p := ⟨gb231, _, none⟩) NB225_231.out _).trans (hHeld.2.2.2.2.2.2.1)), ((cell_far (p := ⟨gb231, _, none⟩) NB223_231.out _).trans (hHeld.2.2.2.2.2.2.2.1)), ((cell_far (p := ⟨gb231, _, none⟩) NB223_231.out _).trans (hHeld.2.2.2.2.2.2.2.2.1)), ((cell_far (p := ⟨gb231, _, none⟩) NB224_231.out _).trans (hHeld.2.2.2.2.2.2.2.2.2.1)), ((cell_far (p := ⟨gb231, _, none⟩) NB224_231.out _).trans (hHeld.2.2.2.2.2.2.2.2.2.2.1)), ((cell_far (p := ⟨gb231, _, none⟩) NB224_231.out _).trans (hHeld.2.2.2.2.2.2.2.2.2.2.2.1)), ((cell_far (p := ⟨gb231, _, none⟩) NB224_231.out _).trans (hHeld.2.2.2.2.2.2.2.2.2.2.2.2.1)), ((cell_far (p := ⟨gb231, _, none⟩) NB224_231.out _).trans (hHeld.2.2.2.2.2.2.2.2.2.2.2.2.2.1)), ((cell_far (p := ⟨gb231, _, none⟩) NB224_231.out _).trans (hHeld.2.2.2.2.2.2.2.2.2.2.2.2.2.2.1)), ((cell_far (p := ⟨gb231, _, none⟩) NB224_231.out _).trans (hHeld.2.2.2.2.2.2.2.2.2.2.2.2.2.2.2.1)), ((cell_far (p := ⟨gb231, _, none⟩) NB224_231.out _).trans (hHeld.2.2.2.2.2.2.2.2.2.2.2.2.2.2.2.2))⟩ (fun hHeld => ?_)
       clear hK K
       refine done_ (done_of HT_.out (by kernel_rfl)) ?_
       try go_wp2
       have n0_ : Aside0 ((w118.setCell ⟨gb231, 3, none⟩ (.int .i64 (Int.tmod (wrap64 (a2_3 + t232)) 2))).heap[gb223]? = some (.cells #[.int .i64 a0_0, .int .i64 a0_1] 23 (0, 0))) := ⟨by (with_reducible repeat (first | refine blk_drewN ?_ _ | refine blk_drew ?_ | refine blk_alloc ?_ _)); refine blk_far ?_ NB223_231.out _; (with_reducible repeat (first | refine blk_drewN ?_ _ | refine blk_drew ?_ | refine blk_alloc ?_ _)); exact BK223.out⟩
       have n1_ : Aside0 ((w118.setCell ⟨gb231, 3, none⟩ (.int .i64 (Int.tmod (wrap64 (a2_3 + t232)) 2))).heap[gb224]? = some (.cells #[.int .i64 a1_0, .int .i64 a1_1, .int .i64 a1_2, .int .i64 a1_3, .int .i64 a1_4, .int .i64 a1_5, .int .i64 a1_6, .string a1_7] 25 (0, 0))) := ⟨by (with_reducible repeat (first | refine blk_drewN ?_ _ | refine blk_drew ?_ | refine blk_alloc ?_ _)); refine blk_far ?_ NB224_231.out _; (with_reducible repeat (first | refine blk_drewN ?_ _ | refine blk_drew ?_ | refine blk_alloc ?_ _)); exact BK224.out⟩
       have n2_ : Aside0 ((w118.setCell ⟨gb231, 3, none⟩ (.int .i64 (Int.tmod (wrap64 (a2_3 + t232)) 2))).heap[gb225]? = some (.cells #[.int .i64 a2_0, .int .i64 a2_1, .int .i64 a2_2, .int .i64 a2_3, .int .i64 a2_4, .string a2_5, .int .i64 a2_6] 27 (0, 0))) := ⟨by (with_reducible repeat (first | refine blk_drewN ?_ _ | refine blk_drew ?_ | refine blk_alloc ?_ _)); refine blk_far ?_ NB225_231.out _; (with_reducible repeat (first | refine blk_drewN ?_ _ | refine blk_drew ?_ | refine blk_alloc ?_ _)); exact BK225.out⟩
       have n3_ : Aside0 ((w118.setCell ⟨gb231, 3, none⟩ (.int .i64 (Int.tmod (wrap64 (a2_3 + t232)) 2))).heap[gb226]? = some (.cells #[.int .i64 0, .int .i64 0, .int .i64 0, .int .i64 0, .int .i64 0, .int .i64 0, .int .i64 0, .string (⟨#[]⟩ : ByteArray)] 25 (0, 0))) := ⟨by (with_reducible repeat (first | refine blk_drewN ?_ _ | refine blk_drew ?_ | refine blk_alloc ?_ _)); refine blk_far ?_ NB226_231.out _; (with_reducible repeat (first | refine blk_drewN ?_ _ | refine blk_drew ?_ | refine blk_alloc ?_ _)); exact BK226.out⟩
       have n4_ : Aside0 ((w118.setCell ⟨gb231, 3, none⟩ (.int .i64 (Int.tmod (wrap64 (a2_3 + t232)) 2))).heap[gb229]? = some (.cells #[.int .i64 1, .int .i64 a1_1, .int .i64 a2_1, .int .i64 a1_3, .int .i64 t230, .int .i64 a1_5, .int .i64 a1_6, .string a1_7] 25 (0, 0))) := ⟨by (with_reducible repeat (first | refine blk_drewN ?_ _ | refine blk_drew ?_ | refine blk_alloc ?_ _)); refine blk_far ?_ NB229_231.out _; (with_reducible repeat (first | refine blk_drewN ?_ _ | refine blk_drew ?_ | refine blk_alloc ?_ _)); exact BK229.out⟩
       have n5_ : Aside0 ((w118.setCell ⟨gb231, 3, none⟩ (.int .i64 (Int.tmod (wrap64 (a2_3 + t232)) 2))).heap[gb231]? = some (.cells #[.int .i64 a2_0, .int .i64 a2_1, .int .i64 a2_2, .int .i64 (Int.tmod (wrap64 (a2_3 + t232)) 2), .int .i64 a2_4, .string a2_5, .int .i64 a2_6] 27 (0, 0))) := ⟨by (with_reducible repeat (first | refine blk_drewN ?_ _ | refine blk_drew ?_ | refine blk_alloc ?_ _)); refine blk_put (cs := #[.int .i64 a2_0, .int .i64 a2_1, .int .i64 a2_2, .int .i64 a2_3, .int .i64 a2_4, .string a2_5, .int .i64 a2_6]) ?_ 3 _ rfl; (with_reducible repeat (first | refine blk_drewN ?_ _ | refine blk_drew ?_ | refine blk_alloc ?_ _)); exact BK231.out⟩
       have n6_ : Aside0 (Below w.heap.size w (w118.setCell ⟨gb231, 3, none⟩ (.int .i64 (Int.tmod (wrap64 (a2_3 + t232)) 2)))) := ⟨by repeat (first | (with_reducible first | exact HB.out | apply below_alloc | apply pw_below_drewN | apply below_drew1 | refine below_set ?_ GE223.out | refine below_set ?_ GE224.out | refine below_set ?_ GE225.out | refine below_set ?_ GE226.out | refine below_set ?_ GE229.out | refine below_set ?_ GE231.out) | exact HB.out)⟩
       (try clear BK223)
       (try clear BK224)
       (try clear BK225)
       (try clear BK226)
       (try clear BK229)
       (try clear BK231)
       (try clear HB)
       generalize (w118.setCell ⟨gb231, 3, none⟩ (.int .i64 (Int.tmod (wrap64 (a2_3 + t232)) 2))) = w120 at n0_ n1_ n2_ n3_ n4_ n5_ n6_ ⊢
       have BK223 := n0_
       have BK224 := n1_
       have BK225 := n2_
       have BK226 := n3_
       have BK229 := n4_
       have BK231 := n5_
       have HB := n6_
       clear n0_ n1_ n2_ n3_ n4_ n5_ n6_
       have n0_ := Aside0.mk (blk_drew BK223.out)
       have n1_ := Aside0.mk (blk_drew BK224.out)
       have n2_ := Aside0.mk (blk_drew BK225.out)
       have n3_ := Aside0.mk (blk_drew BK226.out)
       have n4_ := Aside0.mk (blk_drew BK229.out)
       have n5_ := Aside0.mk (blk_drew BK231.out)
       have n6_ := Aside0.mk (below_drew1 HB.out)
       clear BK223
       clear BK224
       clear BK225
       clear BK226
       clear BK229
       clear BK231
       clear HB
       have BK223 := n0_
       have BK224 := n1_
       have BK225 := n2_
       have BK226 := n3_
       have BK229 := n4_
       have BK231 := n5_
       have HB := n6_
       clear n0_ n1_ n2_ n3_ n4_ n5_ n6_
       refine start_ (n := 5) (S := fun w' => True) (ds := []) #[false, false, false, false, false] (by kernel_rfl) rfl rfl trivial (fun hHeld => ?_); refine with_tabW signalbenchref20_Step.tab11 signalbenchref20_Step.bits11 (fun HT_ HW_ => ?_)
       generalize w120.drew = w121 at BK223 BK224 BK225 BK226 BK229 BK231 HB hHeld ⊢
       refine inv_at [0, 1, 2, 3, 4] (fun a0_ b a w' => ∃ (v234 : Value) (m4_ : Value), a = putSel a0_ b [(0, 67, .agg #[.int .i64 1, .int .i64 a1_1, .int .i64 a2_1, .int .i64 a1_3, .int .i64 t230, .int .i64 a1_5, .int .i64 a1_6, .string a1_7]), (1, 68, .agg #[.int .i64 a2_0, .int .i64 a2_1, .int .i64 a2_2, .int .i64 (Int.tmod (wrap64 (a2_3 + t232)) 2), .int .i64 a2_4, .string a2_5, .int .i64 a2_6]), (2, 69, v234), (4, 7, m4_)] ∧ (w'.heap[gb223]? = some (.cells #[.int .i64 a0_0, .int .i64 a0_1] 23 (0, 0))) ∧ (w'.heap[gb224]? = some (.cells #[.int .i64 a1_0, .int .i64 a1_1, .int .i64 a1_2, .int .i64 a1_3, .int .i64 a1_4, .int .i64 a1_5, .int .i64 a1_6, .string a1_7] 25 (0, 0))) ∧ (w'.heap[gb225]? = some (.cells #[.int .i64 a2_0, .int .i64 a2_1, .int .i64 a2_2, .int .i64 a2_3, .int .i64 a2_4, .string a2_5, .int .i64 a2_6] 27 (0, 0))) ∧ (b 3 = false → w'.heap[gb226]? = some (.cells #[.int .i64 0, .int .i64 0, .int .i64 0, .int .i64 0, .int .i64 0, .int .i64 0, .int .i64 0, .string (⟨#[]⟩ : ByteArray)] 25 (0, 0))) ∧ (w'.heap[gb229]? = some (.cells #[.int .i64 1, .int .i64 a1_1, .int .i64 a2_1, .int .i64 a1_3, .int .i64 t230, .int .i64 a1_5, .int .i64 a1_6, .string a1_7] 25 (0, 0))) ∧ (w'.heap[gb231]? = some (.cells #[.int .i64 a2_0, .int .i64 a2_1, .int .i64 a2_2, .int .i64 (Int.tmod (wrap64 (a2_3 + t232)) 2), .int .i64 a2_4, .string a2_5, .int .i64 a2_6] 27 (0, 0))) ∧ (Below w.heap.size w w') ∧ (b 2 = true → Kd.R k27 27 w' w.heap.size (fun k_ => k_ ≠ gb225 ∧ k_ ≠ gb231) v234 y233) ∧ (b 3 = true → w'.heap[gb226]? = some (.cells #[.int .i64 1, .int .i64 a1_1, .int .i64 a2_1, .int .i64 a1_3, .int .i64 t230, .int .i64 a1_5, .int .i64 a1_6, .string a1_7] 25 (0, 0))) ∧ (b 4 = true → (m4_ : Value) = v234)) HT_.out HW_.out (by kernel_rfl) (by kernel_rfl) ?_ ?_ ?_
       ·exact ⟨.bool false, .bool false, by simp only [putSel, Bool.false_eq_true, if_false], BK223.out, BK224.out, BK225.out, fun _ => BK226.out, BK229.out, BK231.out, HB.out, fun h_ => absurd h_ (by decide), fun h_ => absurd h_ (by decide), fun h_ => absurd h_ (by decide)⟩
       ·skip
        clear BK223 BK224 BK225 BK226 BK229 BK231 HB
        refine steps_cons ?_ ?_
        ·rintro b a w' ⟨v234, m4_, ha, Q_BK223, Q_BK224, Q_BK225, Q_BK226, Q_BK229, Q_BK231, Q_HB, Q_HO235, Q_BK226_e3, Q_X4_⟩ hb_ hon hoff
         refine ⟨_, rfl, fun K hK => ?_⟩
         have e8 : a.tmps[8]? = some (.pointer (some ⟨gb229, 0, none⟩)) := by rw [ha]; exact (putSel_off rfl).trans rfl
         replace ha := Aside0.mk ha
         have BK223 := Aside0.mk Q_BK223
         have BK224 := Aside0.mk Q_BK224
         have BK225 := Aside0.mk Q_BK225
         have BK226 := Aside0.mk (Q_BK226 (hoff 3 (by kernel_rfl)))
         have BK229 := Aside0.mk Q_BK229
         have BK231 := Aside0.mk Q_BK231
         have HB := Aside0.mk Q_HB
         have hc0_ : w'.cell? ⟨gb229, 0, none⟩ = some (.int .i64 1) := (blk_cell BK229.out 0).trans rfl
         have hc1_ : w'.cell? ⟨gb229, 1, none⟩ = some (.int .i64 a1_1) := (blk_cell BK229.out 1).trans rfl
         have hc2_ : w'.cell? ⟨gb229, 2, none⟩ = some (.int .i64 a2_1) := (blk_cell BK229.out 2).trans rfl
         have hc3_ : w'.cell? ⟨gb229, 3, none⟩ = some (.int .i64 a1_3) := (blk_cell BK229.out 3).trans rfl
         have hc4_ : w'.cell? ⟨gb229, 4, none⟩ = some (.int .i64 t230) := (blk_cell BK229.out 4).trans rfl
         have hc5_ : w'.cell? ⟨gb229, 5, none⟩ = some (.int .i64 a1_5) := (blk_cell BK229.out 5).trans rfl
         have hc6_ : w'.cell? ⟨gb229, 6, none⟩ = some (.int .i64 a1_6) := (blk_cell BK229.out 6).trans rfl
         have hc7_ : w'.cell? ⟨gb229, 7, none⟩ = some (.string a1_7) := (blk_cell BK229.out 7).trans rfl
         refine value_ (w1 := w') (v := .agg #[.int .i64 1, .int .i64 a1_1, .int .i64 a2_1, .int .i64 a1_3, .int .i64 t230, .int .i64 a1_5, .int .i64 a1_6, .string a1_7]) (by rfl) rfl ?_ ?_
         ·go_simp
          (try simp only [i64_w, u8_w, u32_w, w64_m8, w64_m32])
          try rfl
         refine hK.out _ _ ⟨v234, m4_, (by rw [ha.out]; exact putSel_upk 0 hb_ rfl rfl rfl), Q_BK223, Q_BK224, Q_BK225, Q_BK226, Q_BK229, Q_BK231, Q_HB, Q_HO235, fun h0_ => absurd ((hoff 3 (by kernel_rfl)).symm.trans h0_) (by decide), fun h0_ => absurd ((hoff 4 (by kernel_rfl)).symm.trans h0_) (by decide)⟩
        refine steps_cons ?_ ?_
        ·rintro b a w' ⟨v234, m4_, ha, Q_BK223, Q_BK224, Q_BK225, Q_BK226, Q_BK229, Q_BK231, Q_HB, Q_HO235, Q_BK226_e3, Q_X4_⟩ hb_ hon hoff
         refine ⟨_, rfl, fun K hK => ?_⟩
         have e9 : a.tmps[9]? = some (.pointer (some ⟨gb231, 0, none⟩)) := by rw [ha]; exact (putSel_off rfl).trans rfl
         replace ha := Aside0.mk ha
         have BK223 := Aside0.mk Q_BK223
         have BK224 := Aside0.mk Q_BK224
         have BK225 := Aside0.mk Q_BK225
         have BK229 := Aside0.mk Q_BK229
         have BK231 := Aside0.mk Q_BK231
         have HB := Aside0.mk Q_HB
         have hc0_ : w'.cell? ⟨gb231, 0, none⟩ = some (.int .i64 a2_0) := (blk_cell BK231.out 0).trans rfl
         have hc1_ : w'.cell? ⟨gb231, 1, none⟩ = some (.int .i64 a2_1) := (blk_cell BK231.out 1).trans rfl
         have hc2_ : w'.cell? ⟨gb231, 2, none⟩ = some (.int .i64 a2_2) := (blk_cell BK231.out 2).trans rfl
         have hc3_ : w'.cell? ⟨gb231, 3, none⟩ = some (.int .i64 (Int.tmod (wrap64 (a2_3 + t232)) 2)) := (blk_cell BK231.out 3).trans rfl
         have hc4_ : w'.cell? ⟨gb231, 4, none⟩ = some (.int .i64 a2_4) := (blk_cell BK231.out 4).trans rfl
         have hc5_ : w'.cell? ⟨gb231, 5, none⟩ = some (.string a2_5) := (blk_cell BK231.out 5).trans rfl
         have hc6_ : w'.cell? ⟨gb231, 6, none⟩ = some (.int .i64 a2_6) := (blk_cell BK231.out 6).trans rfl
         refine value_ (w1 := w') (v := .agg #[.int .i64 a2_0, .int .i64 a2_1, .int .i64 a2_2, .int .i64 (Int.tmod (wrap64 (a2_3 + t232)) 2), .int .i64 a2_4, .string a2_5, .int .i64 a2_6]) (by rfl) rfl ?_ ?_
         ·go_simp
          (try simp only [i64_w, u8_w, u32_w, w64_m8, w64_m32])
          try rfl
         refine hK.out _ _ ⟨v234, m4_, (by rw [ha.out]; exact putSel_upk 1 hb_ rfl rfl rfl), Q_BK223, Q_BK224, Q_BK225, Q_BK226, Q_BK229, Q_BK231, Q_HB, fun h0_ => absurd ((hoff 2 (by kernel_rfl)).symm.trans h0_) (by decide), Q_BK226_e3, fun h0_ => absurd ((hoff 4 (by kernel_rfl)).symm.trans h0_) (by decide)⟩
        refine steps_cons ?_ ?_
        ·rintro b a w' ⟨v234, m4_, ha, Q_BK223, Q_BK224, Q_BK225, Q_BK226, Q_BK229, Q_BK231, Q_HB, Q_HO235, Q_BK226_e3, Q_X4_⟩ hb_ hon hoff
         refine ⟨_, rfl, fun K hK => ?_⟩
         have e68 : a.tmps[68]? = some (.agg #[.int .i64 a2_0, .int .i64 a2_1, .int .i64 a2_2, .int .i64 (Int.tmod (wrap64 (a2_3 + t232)) 2), .int .i64 a2_4, .string a2_5, .int .i64 a2_6]) := by rw [ha]; exact putSel_on (e := (1, 68, .agg #[.int .i64 a2_0, .int .i64 a2_1, .int .i64 a2_2, .int .i64 (Int.tmod (wrap64 (a2_3 + t232)) 2), .int .i64 a2_4, .string a2_5, .int .i64 a2_6])) 1 rfl rfl (hon 1 (by kernel_rfl)) rfl
         replace ha := Aside0.mk ha
         have BK223 := Aside0.mk Q_BK223
         have BK224 := Aside0.mk Q_BK224
         have BK225 := Aside0.mk Q_BK225
         have BK229 := Aside0.mk Q_BK229
         have BK231 := Aside0.mk Q_BK231
         have HB := Aside0.mk Q_HB
         refine Kd.R_lit_step k27 _ 27 ?hg (N := 69) ?hd (xs := ([(⟨a2_0, a2_1, a2_2, Int.tmod (wrap64 (a2_3 + t232)) 2, a2_4, a2_5, a2_6⟩ : S27)] : List (S27))) (inner := [.int .i64 a2_0, .int .i64 a2_1, .int .i64 a2_2, .int .i64 (Int.tmod (wrap64 (a2_3 + t232)) 2), .int .i64 a2_4, .string a2_5, .int .i64 a2_6]) (ok := fun _ => True) (okp := fun _ => True) ?hr ?hp (fun _ hk => hk) trivial (Below.refl _ _) (Nat.le_refl _) (by simp) ?_; (case hd => rfl); (case hg => rfl); (case hr => first | (go_simp; done) | (go_simp; rfl)); (case hp => exact (Reps.c7 (show Kd.M k27 _ _ _ (⟨a2_0, a2_1, a2_2, Int.tmod (wrap64 (a2_3 + t232)) 2, a2_4, a2_5, a2_6⟩ : S27) [.int .i64 a2_0, .int .i64 a2_1, .int .i64 a2_2, .int .i64 (Int.tmod (wrap64 (a2_3 + t232)) 2), .int .i64 a2_4, .string a2_5, .int .i64 a2_6] from (k27_mkM _ _ _ (⟨a2_0, a2_1, a2_2, Int.tmod (wrap64 (a2_3 + t232)) 2, a2_4, a2_5, a2_6⟩ : S27) )) (Reps.none _ _)))
         intro v234 w122 ho123 hb hg_ hnew_
         clear hg_ hnew_
         (first | rw [← Ny233.out] at ho123 | (simp only [Int.reduceToNat] at ho123; rw [← Ny233.out] at ho123))
         have n0_ := Aside0.mk (Kd.R_lower (Kd.R_newB (Kd.R_newB ho123 (g := gb225) (o := .cells #[.int .i64 a2_0, .int .i64 a2_1, .int .i64 a2_2, .int .i64 a2_3, .int .i64 a2_4, .string a2_5, .int .i64 a2_6] 27 (0, 0)) (bkw BK225.out)) (g := gb231) (o := .cells #[.int .i64 a2_0, .int .i64 a2_1, .int .i64 a2_2, .int .i64 (Int.tmod (wrap64 (a2_3 + t232)) 2), .int .i64 a2_4, .string a2_5, .int .i64 a2_6] 27 (0, 0)) (bkw BK231.out)) (below_size (hbw HB.out)))
         have n1_ := Aside0.mk (blkb BK223.out hb)
         have n2_ := Aside0.mk (blkb BK224.out hb)
         have n3_ := Aside0.mk (blkb BK225.out hb)
         have n5_ := Aside0.mk (blkb BK229.out hb)
         have n6_ := Aside0.mk (blkb BK231.out hb)
         have n7_ := Aside0.mk (below_step (hbw HB.out) hb)
         have z_BK226 := fun (h0_ : b 3 = false) => (show w122.heap[gb226]? = some (.cells #[.int .i64 0, .int .i64 0, .int .i64 0, .int .i64 0, .int .i64 0, .int .i64 0, .int .i64 0, .string (⟨#[]⟩ : ByteArray)] 25 (0, 0)) from by first | exact (blk_below (g := gb226) (o := .cells #[.int .i64 0, .int .i64 0, .int .i64 0, .int .i64 0, .int .i64 0, .int .i64 0, .int .i64 0, .string (⟨#[]⟩ : ByteArray)] 25 (0, 0)) (by (with_reducible repeat (first | refine blk_drewN ?_ _ | refine blk_drew ?_ | refine blk_alloc ?_ _)); exact (Q_BK226 h0_)) hb))
         have z_BK226_e3 := fun (h0_ : b 3 = true) => (show w122.heap[gb226]? = some (.cells #[.int .i64 1, .int .i64 a1_1, .int .i64 a2_1, .int .i64 a1_3, .int .i64 t230, .int .i64 a1_5, .int .i64 a1_6, .string a1_7] 25 (0, 0)) from by first | exact (blk_below (g := gb226) (o := .cells #[.int .i64 1, .int .i64 a1_1, .int .i64 a2_1, .int .i64 a1_3, .int .i64 t230, .int .i64 a1_5, .int .i64 a1_6, .string a1_7] 25 (0, 0)) (by (with_reducible repeat (first | refine blk_drewN ?_ _ | refine blk_drew ?_ | refine blk_alloc ?_ _)); exact (Q_BK226_e3 h0_)) hb))
         clear BK223
         clear BK224
         clear BK225
         clear BK229
         clear BK231
         clear HB
         have HO235 := n0_
         have BK223 := n1_
         have BK224 := n2_
         have BK225 := n3_
         have BK229 := n5_
         have BK231 := n6_
         have HB := n7_
         clear n0_ n1_ n2_ n3_ n5_ n6_ n7_
         clear hb ho123
         refine hK.out _ _ ⟨v234, m4_, (by rw [ha.out]; exact putSel_upk 2 hb_ rfl rfl rfl), (bkw BK223.out), (bkw BK224.out), (bkw BK225.out), z_BK226, (bkw BK229.out), (bkw BK231.out), (hbw HB.out), fun _ => (by (with_reducible repeat (first | apply Kd.R_alloc | apply Kd.R_drewN | apply Kd.R_drew)); exact Kd.R_mono HO235.out (fun _ hk => ⟨hk.1.2, hk.2⟩)), z_BK226_e3, fun h0_ => absurd ((hoff 4 (by kernel_rfl)).symm.trans h0_) (by decide)⟩
        refine steps_cons ?_ ?_
        ·rintro b a w' ⟨v234, m4_, ha, Q_BK223, Q_BK224, Q_BK225, Q_BK226, Q_BK229, Q_BK231, Q_HB, Q_HO235, Q_BK226_e3, Q_X4_⟩ hb_ hon hoff
         refine ⟨_, rfl, fun K hK => ?_⟩
         have e6 : a.tmps[6]? = some (.pointer (some ⟨gb226, 0, none⟩)) := by rw [ha]; exact (putSel_off rfl).trans rfl
         have e67 : a.tmps[67]? = some (.agg #[.int .i64 1, .int .i64 a1_1, .int .i64 a2_1, .int .i64 a1_3, .int .i64 t230, .int .i64 a1_5, .int .i64 a1_6, .string a1_7]) := by rw [ha]; exact putSel_on (e := (0, 67, .agg #[.int .i64 1, .int .i64 a1_1, .int .i64 a2_1, .int .i64 a1_3, .int .i64 t230, .int .i64 a1_5, .int .i64 a1_6, .string a1_7])) 0 rfl rfl (hon 0 (by kernel_rfl)) rfl
         replace ha := Aside0.mk ha
         have BK223 := Aside0.mk Q_BK223
         have BK224 := Aside0.mk Q_BK224
         have BK225 := Aside0.mk Q_BK225
         have BK226 := Aside0.mk (Q_BK226 hb_)
         have BK229 := Aside0.mk Q_BK229
         have BK231 := Aside0.mk Q_BK231
         have HB := Aside0.mk Q_HB
         have hs122 : w'.cell? ⟨gb226, 0, none⟩ = some (.int .i64 0) := (blk_cell BK226.out 0).trans rfl
         have hfs122 := blk_frozen BK226.out 0
         have hns122_0 := NB223_226.out
         have hns122_1 := NB224_226.out
         have hns122_2 := NB225_226.out
         have hns122_4 := NB229_226.out
         have hns122_5 := NB231_226.out
         have hms122_0 := NB226_223.out
         have hms122_1 := NB226_224.out
         have hms122_2 := NB226_225.out
         have hms122_4 := NB226_229.out
         have hms122_5 := NB226_231.out
         have hs123 : w'.cell? ⟨gb226, 1, none⟩ = some (.int .i64 0) := (blk_cell BK226.out 1).trans rfl
         have hfs123 := blk_frozen BK226.out 1
         have hns123_0 := NB223_226.out
         have hns123_1 := NB224_226.out
         have hns123_2 := NB225_226.out
         have hns123_4 := NB229_226.out
         have hns123_5 := NB231_226.out
         have hms123_0 := NB226_223.out
         have hms123_1 := NB226_224.out
         have hms123_2 := NB226_225.out
         have hms123_4 := NB226_229.out
         have hms123_5 := NB226_231.out
         have hs124 : w'.cell? ⟨gb226, 2, none⟩ = some (.int .i64 0) := (blk_cell BK226.out 2).trans rfl
         have hfs124 := blk_frozen BK226.out 2
         have hns124_0 := NB223_226.out
         have hns124_1 := NB224_226.out
         have hns124_2 := NB225_226.out
         have hns124_4 := NB229_226.out
         have hns124_5 := NB231_226.out
         have hms124_0 := NB226_223.out
         have hms124_1 := NB226_224.out
         have hms124_2 := NB226_225.out
         have hms124_4 := NB226_229.out
         have hms124_5 := NB226_231.out
         have hs125 : w'.cell? ⟨gb226, 3, none⟩ = some (.int .i64 0) := (blk_cell BK226.out 3).trans rfl
         have hfs125 := blk_frozen BK226.out 3
         have hns125_0 := NB223_226.out
         have hns125_1 := NB224_226.out
         have hns125_2 := NB225_226.out
         have hns125_4 := NB229_226.out
         have hns125_5 := NB231_226.out
         have hms125_0 := NB226_223.out
         have hms125_1 := NB226_224.out
         have hms125_2 := NB226_225.out
         have hms125_4 := NB226_229.out
         have hms125_5 := NB226_231.out
         have hs126 : w'.cell? ⟨gb226, 4, none⟩ = some (.int .i64 0) := (blk_cell BK226.out 4).trans rfl
         have hfs126 := blk_frozen BK226.out 4
         have hns126_0 := NB223_226.out
         have hns126_1 := NB224_226.out
         have hns126_2 := NB225_226.out
         have hns126_4 := NB229_226.out
         have hns126_5 := NB231_226.out
         have hms126_0 := NB226_223.out
         have hms126_1 := NB226_224.out
         have hms126_2 := NB226_225.out
         have hms126_4 := NB226_229.out
         have hms126_5 := NB226_231.out
         have hs127 : w'.cell? ⟨gb226, 5, none⟩ = some (.int .i64 0) := (blk_cell BK226.out 5).trans rfl
         have hfs127 := blk_frozen BK226.out 5
         have hns127_0 := NB223_226.out
         have hns127_1 := NB224_226.out
         have hns127_2 := NB225_226.out
         have hns127_4 := NB229_226.out
         have hns127_5 := NB231_226.out
         have hms127_0 := NB226_223.out
         have hms127_1 := NB226_224.out
         have hms127_2 := NB226_225.out
         have hms127_4 := NB226_229.out
         have hms127_5 := NB226_231.out
         have hs128 : w'.cell? ⟨gb226, 6, none⟩ = some (.int .i64 0) := (blk_cell BK226.out 6).trans rfl
         have hfs128 := blk_frozen BK226.out 6
         have hns128_0 := NB223_226.out
         have hns128_1 := NB224_226.out
         have hns128_2 := NB225_226.out
         have hns128_4 := NB229_226.out
         have hns128_5 := NB231_226.out
         have hms128_0 := NB226_223.out
         have hms128_1 := NB226_224.out
         have hms128_2 := NB226_225.out
         have hms128_4 := NB226_229.out
         have hms128_5 := NB226_231.out
         have hs129 : w'.cell? ⟨gb226, 7, none⟩ = some (.string (⟨#[]⟩ : ByteArray)) := (blk_cell BK226.out 7).trans rfl
         have hfs129 := blk_frozen BK226.out 7
         have hns129_0 := NB223_226.out
         have hns129_1 := NB224_226.out
         have hns129_2 := NB225_226.out
         have hns129_4 := NB229_226.out
         have hns129_5 := NB231_226.out
         have hms129_0 := NB226_223.out
         have hms129_1 := NB226_224.out
         have hms129_2 := NB226_225.out
         have hms129_4 := NB226_229.out
         have hms129_5 := NB226_231.out
         refine skip_ (w1 := ?_) (by rfl) rfl ?_ ?_
         rotate_left
         ·go_simp
          rfl
         refine hK.out _ _ ⟨v234, m4_, (by rw [ha.out]; exact putSel_none (v := undef) rfl), (by (with_reducible repeat (first | refine blk_drewN ?_ _ | refine blk_drew ?_ | refine blk_alloc ?_ _)); refine blk_far ?_ NB223_226.out _; (with_reducible repeat (first | refine blk_drewN ?_ _ | refine blk_drew ?_ | refine blk_alloc ?_ _)); refine blk_far ?_ NB223_226.out _; (with_reducible repeat (first | refine blk_drewN ?_ _ | refine blk_drew ?_ | refine blk_alloc ?_ _)); refine blk_far ?_ NB223_226.out _; (with_reducible repeat (first | refine blk_drewN ?_ _ | refine blk_drew ?_ | refine blk_alloc ?_ _)); refine blk_far ?_ NB223_226.out _; (with_reducible repeat (first | refine blk_drewN ?_ _ | refine blk_drew ?_ | refine blk_alloc ?_ _)); refine blk_far ?_ NB223_226.out _; (with_reducible repeat (first | refine blk_drewN ?_ _ | refine blk_drew ?_ | refine blk_alloc ?_ _)); refine blk_far ?_ NB223_226.out _; (with_reducible repeat (first | refine blk_drewN ?_ _ | refine blk_drew ?_ | refine blk_alloc ?_ _)); refine blk_far ?_ NB223_226.out _; (with_reducible repeat (first | refine blk_drewN ?_ _ | refine blk_drew ?_ | refine blk_alloc ?_ _)); refine blk_far ?_ NB223_226.out _; (with_reducible repeat (first | refine blk_drewN ?_ _ | refine blk_drew ?_ | refine blk_alloc ?_ _)); exact BK223.out), (by (with_reducible repeat (first | refine blk_drewN ?_ _ | refine blk_drew ?_ | refine blk_alloc ?_ _)); refine blk_far ?_ NB224_226.out _; (with_reducible repeat (first | refine blk_drewN ?_ _ | refine blk_drew ?_ | refine blk_alloc ?_ _)); refine blk_far ?_ NB224_226.out _; (with_reducible repeat (first | refine blk_drewN ?_ _ | refine blk_drew ?_ | refine blk_alloc ?_ _)); refine blk_far ?_ NB224_226.out _; (with_reducible repeat (first | refine blk_drewN ?_ _ | refine blk_drew ?_ | refine blk_alloc ?_ _)); refine blk_far ?_ NB224_226.out _; (with_reducible repeat (first | refine blk_drewN ?_ _ | refine blk_drew ?_ | refine blk_alloc ?_ _)); refine blk_far ?_ NB224_226.out _; (with_reducible repeat (first | refine blk_drewN ?_ _ | refine blk_drew ?_ | refine blk_alloc ?_ _)); refine blk_far ?_ NB224_226.out _; (with_reducible repeat (first | refine blk_drewN ?_ _ | refine blk_drew ?_ | refine blk_alloc ?_ _)); refine blk_far ?_ NB224_226.out _; (with_reducible repeat (first | refine blk_drewN ?_ _ | refine blk_drew ?_ | refine blk_alloc ?_ _)); refine blk_far ?_ NB224_226.out _; (with_reducible repeat (first | refine blk_drewN ?_ _ | refine blk_drew ?_ | refine blk_alloc ?_ _)); exact BK224.out), (by (with_reducible repeat (first | refine blk_drewN ?_ _ | refine blk_drew ?_ | refine blk_alloc ?_ _)); refine blk_far ?_ NB225_226.out _; (with_reducible repeat (first | refine blk_drewN ?_ _ | refine blk_drew ?_ | refine blk_alloc ?_ _)); refine blk_far ?_ NB225_226.out _; (with_reducible repeat (first | refine blk_drewN ?_ _ | refine blk_drew ?_ | refine blk_alloc ?_ _)); refine blk_far ?_ NB225_226.out _; (with_reducible repeat (first | refine blk_drewN ?_ _ | refine blk_drew ?_ | refine blk_alloc ?_ _)); refine blk_far ?_ NB225_226.out _; (with_reducible repeat (first | refine blk_drewN ?_ _ | refine blk_drew ?_ | refine blk_alloc ?_ _)); refine blk_far ?_ NB225_226.out _; (with_reducible repeat (first | refine blk_drewN ?_ _ | refine blk_drew ?_ | refine blk_alloc ?_ _)); refine blk_far ?_ NB225_226.out _; (with_reducible repeat (first | refine blk_drewN ?_ _ | refine blk_drew ?_ | refine blk_alloc ?_ _)); refine blk_far ?_ NB225_226.out _; (with_reducible repeat (first | refine blk_drewN ?_ _ | refine blk_drew ?_ | refine blk_alloc ?_ _)); refine blk_far ?_ NB225_226.out _; (with_reducible repeat (first | refine blk_drewN ?_ _ | refine blk_drew ?_ | refine blk_alloc ?_ _)); exact BK225.out), fun h0_ => absurd ((up_self b 3).symm.trans h0_) (by decide), (by (with_reducible repeat (first | refine blk_drewN ?_ _ | refine blk_drew ?_ | refine blk_alloc ?_ _)); refine blk_far ?_ NB229_226.out _; (with_reducible repeat (first | refine blk_drewN ?_ _ | refine blk_drew ?_ | refine blk_alloc ?_ _)); refine blk_far ?_ NB229_226.out _; (with_reducible repeat (first | refine blk_drewN ?_ _ | refine blk_drew ?_ | refine blk_alloc ?_ _)); refine blk_far ?_ NB229_226.out _; (with_reducible repeat (first | refine blk_drewN ?_ _ | refine blk_drew ?_ | refine blk_alloc ?_ _)); refine blk_far ?_ NB229_226.out _; (with_reducible repeat (first | refine blk_drewN ?_ _ | refine blk_drew ?_ | refine blk_alloc ?_ _)); refine blk_far ?_ NB229_226.out _; (with_reducible repeat (first | refine blk_drewN ?_ _ | refine blk_drew ?_ | refine blk_alloc ?_ _)); refine blk_far ?_ NB229_226.out _; (with_reducible repeat (first | refine blk_drewN ?_ _ | refine blk_drew ?_ | refine blk_alloc ?_ _)); refine blk_far ?_ NB229_226.out _; (with_reducible repeat (first | refine blk_drewN ?_ _ | refine blk_drew ?_ | refine blk_alloc ?_ _)); refine blk_far ?_ NB229_226.out _; (with_reducible repeat (first | refine blk_drewN ?_ _ | refine blk_drew ?_ | refine blk_alloc ?_ _)); exact BK229.out), (by (with_reducible repeat (first | refine blk_drewN ?_ _ | refine blk_drew ?_ | refine blk_alloc ?_ _)); refine blk_far ?_ NB231_226.out _; (with_reducible repeat (first | refine blk_drewN ?_ _ | refine blk_drew ?_ | refine blk_alloc ?_ _)); refine blk_far ?_ NB231_226.out _; (with_reducible repeat (first | refine blk_drewN ?_ _ | refine blk_drew ?_ | refine blk_alloc ?_ _)); refine blk_far ?_ NB231_226.out _; (with_reducible repeat (first | refine blk_drewN ?_ _ | refine blk_drew ?_ | refine blk_alloc ?_ _)); refine blk_far ?_ NB231_226.out _; (with_reducible repeat (first | refine blk_drewN ?_ _ | refine blk_drew ?_ | refine blk_alloc ?_ _)); refine blk_far ?_ NB231_226.out _; (with_reducible repeat (first | refine blk_drewN ?_ _ | refine blk_drew ?_ | refine blk_alloc ?_ _)); refine blk_far ?_ NB231_226.out _; (with_reducible repeat (first | refine blk_drewN ?_ _ | refine blk_drew ?_ | refine blk_alloc ?_ _)); refine blk_far ?_ NB231_226.out _; (with_reducible repeat (first | refine blk_drewN ?_ _ | refine blk_drew ?_ | refine blk_alloc ?_ _)); refine blk_far ?_ NB231_226.out _; (with_reducible repeat (first | refine blk_drewN ?_ _ | refine blk_drew ?_ | refine blk_alloc ?_ _)); exact BK231.out), (hbw HB.out), fun h0_ => (by (with_reducible repeat (first | apply Kd.R_alloc | apply Kd.R_drewN | apply Kd.R_drew)); exact Kd.R_mono (Kd.R_far (p := ⟨gb226, 7, none⟩) (Kd.R_far (p := ⟨gb226, 6, none⟩) (Kd.R_far (p := ⟨gb226, 5, none⟩) (Kd.R_far (p := ⟨gb226, 4, none⟩) (Kd.R_far (p := ⟨gb226, 3, none⟩) (Kd.R_far (p := ⟨gb226, 2, none⟩) (Kd.R_far (p := ⟨gb226, 1, none⟩) (Kd.R_far (p := ⟨gb226, 0, none⟩) (Kd.R_types (Q_HO235 h0_) BK226.out (by decide)) (fun _ hk => hk.2) (.int .i64 1)) (fun _ hk => hk.2) (.int .i64 a1_1)) (fun _ hk => hk.2) (.int .i64 a2_1)) (fun _ hk => hk.2) (.int .i64 a1_3)) (fun _ hk => hk.2) (.int .i64 t230)) (fun _ hk => hk.2) (.int .i64 a1_5)) (fun _ hk => hk.2) (.int .i64 a1_6)) (fun _ hk => hk.2) (.string a1_7)) (fun _ hk => ⟨hk.1.1, hk.1.2⟩)), fun _ => (by (with_reducible repeat (first | refine blk_drewN ?_ _ | refine blk_drew ?_ | refine blk_alloc ?_ _)); refine blk_put (cs := #[.int .i64 1, .int .i64 a1_1, .int .i64 a2_1, .int .i64 a1_3, .int .i64 t230, .int .i64 a1_5, .int .i64 a1_6, .string (⟨#[]⟩ : ByteArray)]) ?_ 7 _ rfl; (with_reducible repeat (first | refine blk_drewN ?_ _ | refine blk_drew ?_ | refine blk_alloc ?_ _)); refine blk_put (cs := #[.int .i64 1, .int .i64 a1_1, .int .i64 a2_1, .int .i64 a1_3, .int .i64 t230, .int .i64 a1_5, .int .i64 0, .string (⟨#[]⟩ : ByteArray)]) ?_ 6 _ rfl; (with_reducible repeat (first | refine blk_drewN ?_ _ | refine blk_drew ?_ | refine blk_alloc ?_ _)); refine blk_put (cs := #[.int .i64 1, .int .i64 a1_1, .int .i64 a2_1, .int .i64 a1_3, .int .i64 t230, .int .i64 0, .int .i64 0, .string (⟨#[]⟩ : ByteArray)]) ?_ 5 _ rfl; (with_reducible repeat (first | refine blk_drewN ?_ _ | refine blk_drew ?_ | refine blk_alloc ?_ _)); refine blk_put (cs := #[.int .i64 1, .int .i64 a1_1, .int .i64 a2_1, .int .i64 a1_3, .int .i64 0, .int .i64 0, .int .i64 0, .string (⟨#[]⟩ : ByteArray)]) ?_ 4 _ rfl; (with_reducible repeat (first | refine blk_drewN ?_ _ | refine blk_drew ?_ | refine blk_alloc ?_ _)); refine blk_put (cs := #[.int .i64 1, .int .i64 a1_1, .int .i64 a2_1, .int .i64 0, .int .i64 0, .int .i64 0, .int .i64 0, .string (⟨#[]⟩ : ByteArray)]) ?_ 3 _ rfl; (with_reducible repeat (first | refine blk_drewN ?_ _ | refine blk_drew ?_ | refine blk_alloc ?_ _)); refine blk_put (cs := #[.int .i64 1, .int .i64 a1_1, .int .i64 0, .int .i64 0, .int .i64 0, .int .i64 0, .int .i64 0, .string (⟨#[]⟩ : ByteArray)]) ?_ 2 _ rfl; (with_reducible repeat (first | refine blk_drewN ?_ _ | refine blk_drew ?_ | refine blk_alloc ?_ _)); refine blk_put (cs := #[.int .i64 1, .int .i64 0, .int .i64 0, .int .i64 0, .int .i64 0, .int .i64 0, .int .i64 0, .string (⟨#[]⟩ : ByteArray)]) ?_ 1 _ rfl; (with_reducible repeat (first | refine blk_drewN ?_ _ | refine blk_drew ?_ | refine blk_alloc ?_ _)); refine blk_put (cs := #[.int .i64 0, .int .i64 0, .int .i64 0, .int .i64 0, .int .i64 0, .int .i64 0, .int .i64 0, .string (⟨#[]⟩ : ByteArray)]) ?_ 0 _ rfl; (with_reducible repeat (first | refine blk_drewN ?_ _ | refine blk_drew ?_ | refine blk_alloc ?_ _)); exact BK226.out), fun h0_ => absurd ((hoff 4 (by kernel_rfl)).symm.trans h0_) (by decide)⟩
        refine steps_cons ?_ ?_
        ·rintro b a w' ⟨v234, m4_, ha, Q_BK223, Q_BK224, Q_BK225, Q_BK226, Q_BK229, Q_BK231, Q_HB, Q_HO235, Q_BK226_e3, Q_X4_⟩ hb_ hon hoff
         refine ⟨_, rfl, fun K hK => ?_⟩
         have e69 : a.tmps[69]? = some (v234) := by rw [ha]; exact putSel_on (e := (2, 69, v234)) 2 rfl rfl (hon 2 (by kernel_rfl)) rfl
         replace ha := Aside0.mk ha
         have BK223 := Aside0.mk Q_BK223
         have BK224 := Aside0.mk Q_BK224
         have BK225 := Aside0.mk Q_BK225
         have BK229 := Aside0.mk Q_BK229
         have BK231 := Aside0.mk Q_BK231
         have HB := Aside0.mk Q_HB
         have HO235 := Aside0.mk (Q_HO235 (hon 2 (by kernel_rfl)))
         have BK226 := Aside0.mk (Q_BK226_e3 (hon 3 (by kernel_rfl)))
         refine value_ (w1 := w') (v := v234) (by rfl) rfl ?_ ?_
         ·go_simp
          (try simp only [i64_w, u8_w, u32_w, w64_m8, w64_m32])
          try rfl
         refine hK.out _ _ ⟨v234, (v234), (by rw [ha.out]; exact putSel_upk 3 hb_ rfl rfl rfl), Q_BK223, Q_BK224, Q_BK225, fun h0_ => absurd ((hon 3 (by kernel_rfl)).symm.trans h0_) (by decide), Q_BK229, Q_BK231, Q_HB, Q_HO235, Q_BK226_e3, fun _ => rfl⟩
        exact steps_nil
       rintro b a w132 hall ⟨v234, m4_, ha, Q_BK223, Q_BK224, Q_BK225, Q_BK226, Q_BK229, Q_BK231, Q_HB, Q_HO235, Q_BK226_e3, Q_X4_⟩
       clear BK223 BK224 BK225 BK226 BK229 BK231 HB
       have hb0_ := hall 0 (by kernel_rfl)
       have hb1_ := hall 1 (by kernel_rfl)
       have hb2_ := hall 2 (by kernel_rfl)
       have hb3_ := hall 3 (by kernel_rfl)
       have hb4_ := hall 4 (by kernel_rfl)
       subst ha
       obtain rfl := Q_X4_ hb4_
       simp only [putSel, hb0_, hb1_, hb2_, hb3_, hb4_, if_true, Act.put, List.setIfInBounds_toArray, List.set_cons_zero, List.set_cons_succ]
       have BK223 := Aside0.mk Q_BK223
       clear Q_BK223
       have BK224 := Aside0.mk Q_BK224
       clear Q_BK224
       have BK225 := Aside0.mk Q_BK225
       clear Q_BK225
       clear Q_BK226
       have BK229 := Aside0.mk Q_BK229
       clear Q_BK229
       have BK231 := Aside0.mk Q_BK231
       clear Q_BK231
       have HB := Aside0.mk Q_HB
       clear Q_HB
       have HO235 := Aside0.mk (Q_HO235 hb2_)
       clear Q_HO235
       have BK226 := Aside0.mk (Q_BK226_e3 hb3_)
       clear Q_BK226_e3
       clear hall hb0_ hb1_ hb2_ hb3_ hb4_
       try go_wp2
       refine bodyPost_ret (results_ct rfl _ _ gb226 25 #[.int .i64 1, .int .i64 a1_1, .int .i64 a2_1, .int .i64 a1_3, .int .i64 t230, .int .i64 a1_5, .int .i64 a1_6, .string a1_7] (0, 0) _ rfl (bkw BK226.out) Try.underlying25 rfl (by kernel_rfl)) rfl ?_
       exact ⟨_, by first | rfl | (simp [errW_none, errW_some] <;> rfl) | (simp [*, errW_none, errW_some] <;> rfl), by (with_reducible repeat (first | apply Kd.R_alloc | apply Kd.R_drewN | apply Kd.R_drew)); exact Kd.R_mono HO235.out (fun _ hk => trivial), by repeat (first | (with_reducible first | exact HB.out | apply below_alloc | apply pw_below_drewN | apply below_drew1 | refine below_set ?_ GE223.out | refine below_set ?_ GE224.out | refine below_set ?_ GE225.out | refine below_set ?_ GE226.out | refine below_set ?_ GE229.out | refine below_set ?_ GE231.out) | exact HB.out)⟩

end Go.Proofs.Ytgcifmaefoeobaa.PScrambleDecodes
