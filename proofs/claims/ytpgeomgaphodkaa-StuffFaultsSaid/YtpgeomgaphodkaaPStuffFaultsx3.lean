-- Written by a program of this session (wip/tools/pr.py), which calls the kit's print with changes of its own.
import Derived.Test.YtpgeomgaphodkaaPStuffFaultsx0
import Derived.Test.YtpgeomgaphodkaaPStuffFaultsx2
namespace Go.Proofs.Ytpgeomgaphodkaa.PStuffFaults
open Go.RowKit Go.Proofs.YtpgeomgaphodkaaW.PrintWords Go.Proofs.YtpgeomgaphodkaaW.PrintLast Go.Proofs.YtpgeomgaphodkaaW.PrintMore
attribute [local go_sem] max2_int min2_int max_two min_two max_three min_three max_four min_four   -- for this text's walks alone
set_option linter.unusedVariables false
set_option linter.unusedSimpArgs false

/-! ### stuff_Step: function 12 -/
mutual
def stuff_Step.j0 : Nat → Bool → Int → Bool → Int → Int → Int → Int → Int → Int → Int → ByteArray → Int → Int → Int → Int → Int → ByteArray → Int → Option (Int × Int × Int × Int × Int × Int × Int × ByteArray × (List (S33)))
 | 0, _, _, _, _, _, _, _, _, _, _, _, _, _, _, _, _, _, _ => none
 | k + 1, x18, x110000, x110001, x111000, x111001, x111002, x111003, x111004, x111005, x111006, x111007, x112000, x112001, x112002, x112003, x112004, x112005, x112006 => if x18 = true then (some (x111000, x111001, x111002, x111003, x111004, x111005, x111006, x111007, ([] : List (S33)))) else (stuff_Step.j1 k x110000 x110001 x111000 x111001 x111002 x111003 x111004 x111005 x111006 x111007 x112000 x112001 x112002 x112003 x112004 x112005 x112006)
def stuff_Step.j1 : Nat → Int → Bool → Int → Int → Int → Int → Int → Int → Int → ByteArray → Int → Int → Int → Int → Int → ByteArray → Int → Option (Int × Int × Int × Int × Int × Int × Int × ByteArray × (List (S33)))
 | 0, _, _, _, _, _, _, _, _, _, _, _, _, _, _, _, _, _ => none
 | k + 1, x110000, x110001, x111000, x111001, x111002, x111003, x111004, x111005, x111006, x111007, x112000, x112001, x112002, x112003, x112004, x112005, x112006 => if x112006 = 0 then (if x111003 = x110000 then (if x112003 = (wrap64 (1 - x111006)) then ((stuff_count.f k x110000 x110001 0 x111006 x112003).bind fun bt119 => (some (x111000, x112001, x111002, bt119.1, x111004, x111005, bt119.2, x111007, ([] : List (S33))))) else (some (x111000, x112001, x111002, 0, x111004, x111005, x111006, x111007, (([(⟨2, x112001, x112002, x112003, x112004, (⟨#[]⟩ : ByteArray), 4⟩ : S33)] : List (S33)))))) else ((stuff_count.f k x110000 x110001 x111003 x111006 x112003).bind fun bt124 => (some (x111000, x112001, x111002, bt124.1, x111004, x111005, bt124.2, x111007, (([(⟨2, x112001, x112002, x112003, x112004, (⟨#[]⟩ : ByteArray), x112006⟩ : S33)] : List (S33))))))) else (some (x111000, x112001, x111002, 0, x111004, x111005, x111006, x111007, (([(⟨2, x112001, x112002, x112003, x112004, (⟨#[]⟩ : ByteArray), x112006⟩ : S33)] : List (S33)))))
end
def stuff_Step.f (k : Nat) (a0_0 : Int) (a0_1 : Bool) (a1_0 : Int) (a1_1 : Int) (a1_2 : Int) (a1_3 : Int) (a1_4 : Int) (a1_5 : Int) (a1_6 : Int) (a1_7 : ByteArray) (a2_0 : Int) (a2_1 : Int) (a2_2 : Int) (a2_3 : Int) (a2_4 : Int) (a2_5 : ByteArray) (a2_6 : Int) : Option (Int × Int × Int × Int × Int × Int × Int × ByteArray × (List (S33))) := (stuff_Check.f a0_0 a0_1).bind fun t113 => (if t113 = 0 then ((stuff_accepts.f k a1_0 a1_1 a1_2 a1_3 a1_4 a1_5 a1_6 a1_7 a2_0 a2_1 a2_2 a2_3 a2_4 a2_5 a2_6).bind fun t114 => (stuff_Step.j0 k (!t114) a0_0 a0_1 a1_0 a1_1 a1_2 a1_3 a1_4 a1_5 a1_6 a1_7 a2_0 a2_1 a2_2 a2_3 a2_4 a2_5 a2_6)) else (stuff_Step.j0 k true a0_0 a0_1 a1_0 a1_1 a1_2 a1_3 a1_4 a1_5 a1_6 a1_7 a2_0 a2_1 a2_2 a2_3 a2_4 a2_5 a2_6))
theorem stuff_Step.mono_l : ∀ k, (∀ y0 y1 y2 y3 y4 y5 y6 y7 y8 y9 y10 y11 y12 y13 y14 y15 y16 y17, LeO (stuff_Step.j0 k y0 y1 y2 y3 y4 y5 y6 y7 y8 y9 y10 y11 y12 y13 y14 y15 y16 y17) (stuff_Step.j0 (k + 1) y0 y1 y2 y3 y4 y5 y6 y7 y8 y9 y10 y11 y12 y13 y14 y15 y16 y17)) ∧ (∀ y0 y1 y2 y3 y4 y5 y6 y7 y8 y9 y10 y11 y12 y13 y14 y15 y16, LeO (stuff_Step.j1 k y0 y1 y2 y3 y4 y5 y6 y7 y8 y9 y10 y11 y12 y13 y14 y15 y16) (stuff_Step.j1 (k + 1) y0 y1 y2 y3 y4 y5 y6 y7 y8 y9 y10 y11 y12 y13 y14 y15 y16))
 | 0 => ⟨fun _ _ _ _ _ _ _ _ _ _ _ _ _ _ _ _ _ _ r h => by simp [stuff_Step.j0] at h, fun _ _ _ _ _ _ _ _ _ _ _ _ _ _ _ _ _ r h => by simp [stuff_Step.j1] at h⟩
 | k + 1 => by
  obtain ⟨ih0, ih1⟩ := stuff_Step.mono_l k
  refine ⟨?_, ?_⟩
  ·intro y0 y1 y2 y3 y4 y5 y6 y7 y8 y9 y10 y11 y12 y13 y14 y15 y16 y17
   unfold stuff_Step.j0
   repeat' first
   | (with_reducible exact ih0 _ _ _ _ _ _ _ _ _ _ _ _ _ _ _ _ _ _)
   | (with_reducible exact ih1 _ _ _ _ _ _ _ _ _ _ _ _ _ _ _ _ _)
   | (with_reducible exact stuff_accepts.mono _ _ _ _ _ _ _ _ _ _ _ _ _ _ _ _)
   | (with_reducible exact stuff_count.mono _ _ _ _ _ _)
   | (with_reducible exact LeO.refl _)
   | (with_reducible exact LeO.none _)
   | (with_reducible refine LeO.ite ?_ ?_)
   | (with_reducible refine LeO.bind ?_ (fun _ => ?_))
   | exact ih0 _ _ _ _ _ _ _ _ _ _ _ _ _ _ _ _ _ _
   | exact ih1 _ _ _ _ _ _ _ _ _ _ _ _ _ _ _ _ _
   | exact stuff_accepts.mono _ _ _ _ _ _ _ _ _ _ _ _ _ _ _ _
   | exact stuff_count.mono _ _ _ _ _ _
   | exact LeO.none _
   | refine LeO.ite ?_ ?_
   | refine LeO.bind ?_ (fun _ => ?_)
  ·intro y0 y1 y2 y3 y4 y5 y6 y7 y8 y9 y10 y11 y12 y13 y14 y15 y16
   unfold stuff_Step.j1
   repeat' first
   | (with_reducible exact ih0 _ _ _ _ _ _ _ _ _ _ _ _ _ _ _ _ _ _)
   | (with_reducible exact ih1 _ _ _ _ _ _ _ _ _ _ _ _ _ _ _ _ _)
   | (with_reducible exact stuff_accepts.mono _ _ _ _ _ _ _ _ _ _ _ _ _ _ _ _)
   | (with_reducible exact stuff_count.mono _ _ _ _ _ _)
   | (with_reducible exact LeO.refl _)
   | (with_reducible exact LeO.none _)
   | (with_reducible refine LeO.ite ?_ ?_)
   | (with_reducible refine LeO.bind ?_ (fun _ => ?_))
   | exact ih0 _ _ _ _ _ _ _ _ _ _ _ _ _ _ _ _ _ _
   | exact ih1 _ _ _ _ _ _ _ _ _ _ _ _ _ _ _ _ _
   | exact stuff_accepts.mono _ _ _ _ _ _ _ _ _ _ _ _ _ _ _ _
   | exact stuff_count.mono _ _ _ _ _ _
   | exact LeO.none _
   | refine LeO.ite ?_ ?_
   | refine LeO.bind ?_ (fun _ => ?_)
theorem stuff_Step.mono : ∀ a0 a1 a2 a3 a4 a5 a6 a7 a8 a9 a10 a11 a12 a13 a14 a15 a16 k, LeO (stuff_Step.f k a0 a1 a2 a3 a4 a5 a6 a7 a8 a9 a10 a11 a12 a13 a14 a15 a16) (stuff_Step.f (k + 1) a0 a1 a2 a3 a4 a5 a6 a7 a8 a9 a10 a11 a12 a13 a14 a15 a16) := by
 intro a0 a1 a2 a3 a4 a5 a6 a7 a8 a9 a10 a11 a12 a13 a14 a15 a16 k
 obtain ⟨ih0, ih1⟩ := stuff_Step.mono_l k
 unfold stuff_Step.f
 repeat' first
   | (with_reducible exact ih0 _ _ _ _ _ _ _ _ _ _ _ _ _ _ _ _ _ _)
   | (with_reducible exact ih1 _ _ _ _ _ _ _ _ _ _ _ _ _ _ _ _ _)
   | (with_reducible exact stuff_accepts.mono _ _ _ _ _ _ _ _ _ _ _ _ _ _ _ _)
   | (with_reducible exact stuff_count.mono _ _ _ _ _ _)
   | (with_reducible exact LeO.refl _)
   | (with_reducible exact LeO.none _)
   | (with_reducible refine LeO.ite ?_ ?_)
   | (with_reducible refine LeO.bind ?_ (fun _ => ?_))
   | exact ih0 _ _ _ _ _ _ _ _ _ _ _ _ _ _ _ _ _ _
   | exact ih1 _ _ _ _ _ _ _ _ _ _ _ _ _ _ _ _ _
   | exact stuff_accepts.mono _ _ _ _ _ _ _ _ _ _ _ _ _ _ _ _
   | exact stuff_count.mono _ _ _ _ _ _
   | exact LeO.none _
   | refine LeO.ite ?_ ?_
   | refine LeO.bind ?_ (fun _ => ?_)
def stuff_Step.T7 : Bool × List (List Nat × List Nat) := (true, [([], []), ([], []), ([1], [1]), ([0, 0], [0]), ([2, 3, 0, 1, 2, 3], [2])])
def stuff_Step.B7 : List Nat := [0, 0, 2, 1, 15]
theorem stuff_Step.tab7 : rtab .any (opsOf Try.f12 7) = stuff_Step.T7 := by kernel_rfl
theorem stuff_Step.bits7 : waitsOk stuff_Step.T7.2 stuff_Step.B7 = true := by kernel_rfl
def stuff_Step.T10 : Bool × List (List Nat × List Nat) := (true, [([], []), ([], []), ([1], [1]), ([0, 0], [0]), ([2, 3, 0, 1, 2, 3], [2])])
def stuff_Step.B10 : List Nat := [0, 0, 2, 1, 15]
theorem stuff_Step.tab10 : rtab .any (opsOf Try.f12 10) = stuff_Step.T10 := by kernel_rfl
theorem stuff_Step.bits10 : waitsOk stuff_Step.T10.2 stuff_Step.B10 = true := by kernel_rfl
def stuff_Step.T17 : Bool × List (List Nat × List Nat) := (true, [([], []), ([], []), ([1], [1]), ([0, 0], [0]), ([2, 3, 0, 1, 2, 3], [2])])
def stuff_Step.B17 : List Nat := [0, 0, 2, 1, 15]
theorem stuff_Step.tab17 : rtab .any (opsOf Try.f12 17) = stuff_Step.T17 := by kernel_rfl
theorem stuff_Step.bits17 : waitsOk stuff_Step.T17.2 stuff_Step.B17 = true := by kernel_rfl
set_option maxHeartbeats 8000000 in
set_option maxRecDepth 100000 in
theorem stuff_Step.calls (k : Nat) (a0_0 : Int) (a0_1 : Bool) (a1_0 : Int) (a1_1 : Int) (a1_2 : Int) (a1_3 : Int) (a1_4 : Int) (a1_5 : Int) (a1_6 : Int) (a1_7 : ByteArray) (a2_0 : Int) (a2_1 : Int) (a2_2 : Int) (a2_3 : Int) (a2_4 : Int) (a2_5 : ByteArray) (a2_6 : Int) (r1 : Int) (r2 : Int) (r3 : Int) (r4 : Int) (r5 : Int) (r6 : Int) (r7 : Int) (r8 : ByteArray) (r9 : List (S33)) (w : World) (h : stuff_Step.f k a0_0 a0_1 a1_0 a1_1 a1_2 a1_3 a1_4 a1_5 a1_6 a1_7 a2_0 a2_1 a2_2 a2_3 a2_4 a2_5 a2_6 = some (r1, r2, r3, r4, r5, r6, r7, r8, r9)) :
  Calls Try.prog 12 #[.agg #[.int .i64 a0_0, .bool a0_1], .agg #[.int .i64 a1_0, .int .i64 a1_1, .int .i64 a1_2, .int .i64 a1_3, .int .i64 a1_4, .int .i64 a1_5, .int .i64 a1_6, .string a1_7], .agg #[.int .i64 a2_0, .int .i64 a2_1, .int .i64 a2_2, .int .i64 a2_3, .int .i64 a2_4, .string a2_5, .int .i64 a2_6]] w fun e w' => ∃ v8_ : Value, e = .returned (.tuple #[.agg #[.int .i64 r1, .int .i64 r2, .int .i64 r3, .int .i64 r4, .int .i64 r5, .int .i64 r6, .int .i64 r7, .string r8], v8_]) ∧ Kd.R k33 33 w' w.heap.size (fun _ => True) v8_ r9 ∧ Below w.heap.size w w' := by
 have hu23 := Try.underlying23
 have hu28 := Try.underlying28
 have hu33 := Try.underlying33
 have HB := Aside0.mk (Below.refl w.heap.size w)
 have H : ((stuff_Check.f a0_0 a0_1).bind fun t113 => (if t113 = 0 then ((stuff_accepts.f k a1_0 a1_1 a1_2 a1_3 a1_4 a1_5 a1_6 a1_7 a2_0 a2_1 a2_2 a2_3 a2_4 a2_5 a2_6).bind fun t114 => (stuff_Step.j0 k (!t114) a0_0 a0_1 a1_0 a1_1 a1_2 a1_3 a1_4 a1_5 a1_6 a1_7 a2_0 a2_1 a2_2 a2_3 a2_4 a2_5 a2_6)) else (stuff_Step.j0 k true a0_0 a0_1 a1_0 a1_1 a1_2 a1_3 a1_4 a1_5 a1_6 a1_7 a2_0 a2_1 a2_2 a2_3 a2_4 a2_5 a2_6))) = some (r1, r2, r3, r4, r5, r6, r7, r8, r9) := h
 clear h
 have HC4 := Aside0.mk H
 clear H
 go_enter Try.func12, Try.ntmps12
 go_upto_region 1 with (first | ((with_reducible refine gate_dst (N := 3) rfl ?_); refine box_event ?hg (N := 3) ?hd (cs := #[.int .i64 a0_0, .bool a0_1]) (t := 23) ?hr ?_; (case hd => rfl); (case hg => rfl); (case hr => first | (go_simp; done) | (go_simp; rfl)); intro gb109 hg w5 hbox hb; have n0_ := Aside0.mk (below_step (hbw HB.out) hb); have n1_ := Aside0.mk (hbox); have n2_ := Aside0.mk ((by rw [hg]; exact (below_size (hbw HB.out)) : w.heap.size ≤ gb109)); have n3_ := Aside0.mk ((by rw [hg]; exact (below_size (hbw HB.out)) : w.heap.size ≤ gb109)); clear HB; have HB := n0_; have BK109 := n1_; have GW109 := n2_; have GE109 := n3_; clear n0_ n1_ n2_ n3_; clear hb hbox hg) | ((with_reducible refine gate_dst (N := 4) rfl ?_); refine box_event ?hg (N := 4) ?hd (cs := #[.int .i64 a1_0, .int .i64 a1_1, .int .i64 a1_2, .int .i64 a1_3, .int .i64 a1_4, .int .i64 a1_5, .int .i64 a1_6, .string a1_7]) (t := 28) ?hr ?_; (case hd => rfl); (case hg => rfl); (case hr => first | (go_simp; done) | (go_simp; rfl)); intro gb110 hg w6 hbox hb; have n0_ := Aside0.mk (blkb BK109.out hb); have n1_ := Aside0.mk (below_step (hbw HB.out) hb); have n2_ := Aside0.mk (hbox); have n3_ := Aside0.mk ((by rw [hg]; exact (below_size (hbw HB.out)) : w.heap.size ≤ gb110)); have n4_ := Aside0.mk ((by rw [hg]; exact (below_size (hbw HB.out)) : w.heap.size ≤ gb110)); have n5_ := Aside0.mk ((by rw [hg]; exact Nat.ne_of_lt (blkl BK109.out) : gb109 ≠ gb110)); have n6_ := Aside0.mk ((by rw [hg]; exact Nat.ne_of_gt (blkl BK109.out) : gb110 ≠ gb109)); clear BK109; clear HB; have BK109 := n0_; have HB := n1_; have BK110 := n2_; have GW110 := n3_; have GE110 := n4_; have NB109_110 := n5_; have NB110_109 := n6_; clear n0_ n1_ n2_ n3_ n4_ n5_ n6_; clear hb hbox hg) | ((with_reducible refine gate_dst (N := 5) rfl ?_); refine box_event ?hg (N := 5) ?hd (cs := #[.int .i64 a2_0, .int .i64 a2_1, .int .i64 a2_2, .int .i64 a2_3, .int .i64 a2_4, .string a2_5, .int .i64 a2_6]) (t := 33) ?hr ?_; (case hd => rfl); (case hg => rfl); (case hr => first | (go_simp; done) | (go_simp; rfl)); intro gb111 hg w7 hbox hb; have n0_ := Aside0.mk (blkb BK109.out hb); have n1_ := Aside0.mk (blkb BK110.out hb); have n2_ := Aside0.mk (below_step (hbw HB.out) hb); have n3_ := Aside0.mk (hbox); have n4_ := Aside0.mk ((by rw [hg]; exact (below_size (hbw HB.out)) : w.heap.size ≤ gb111)); have n5_ := Aside0.mk ((by rw [hg]; exact (below_size (hbw HB.out)) : w.heap.size ≤ gb111)); have n6_ := Aside0.mk ((by rw [hg]; exact Nat.ne_of_lt (blkl BK109.out) : gb109 ≠ gb111)); have n7_ := Aside0.mk ((by rw [hg]; exact Nat.ne_of_gt (blkl BK109.out) : gb111 ≠ gb109)); have n8_ := Aside0.mk ((by rw [hg]; exact Nat.ne_of_lt (blkl BK110.out) : gb110 ≠ gb111)); have n9_ := Aside0.mk ((by rw [hg]; exact Nat.ne_of_gt (blkl BK110.out) : gb111 ≠ gb110)); clear BK109; clear BK110; clear HB; have BK109 := n0_; have BK110 := n1_; have HB := n2_; have BK111 := n3_; have GW111 := n4_; have GE111 := n5_; have NB109_111 := n6_; have NB111_109 := n7_; have NB110_111 := n8_; have NB111_110 := n9_; clear n0_ n1_ n2_ n3_ n4_ n5_ n6_ n7_ n8_ n9_; clear hb hbox hg) | ((with_reducible refine gate_dst (N := 6) rfl ?_); refine box_event ?hg (N := 6) ?hd (cs := #[.int .i64 0, .int .i64 0, .int .i64 0, .int .i64 0, .int .i64 0, .int .i64 0, .int .i64 0, .string (⟨#[]⟩ : ByteArray)]) (t := 28) ?hr ?_; (case hd => rfl); (case hg => rfl); (case hr => first | (go_simp; done) | (go_simp; rfl)); intro gb112 hg w8 hbox hb; have n0_ := Aside0.mk (blkb BK109.out hb); have n1_ := Aside0.mk (blkb BK110.out hb); have n2_ := Aside0.mk (blkb BK111.out hb); have n3_ := Aside0.mk (below_step (hbw HB.out) hb); have n4_ := Aside0.mk (hbox); have n5_ := Aside0.mk ((by rw [hg]; exact (below_size (hbw HB.out)) : w.heap.size ≤ gb112)); have n6_ := Aside0.mk ((by rw [hg]; exact (below_size (hbw HB.out)) : w.heap.size ≤ gb112)); have n7_ := Aside0.mk ((by rw [hg]; exact Nat.ne_of_lt (blkl BK109.out) : gb109 ≠ gb112)); have n8_ := Aside0.mk ((by rw [hg]; exact Nat.ne_of_gt (blkl BK109.out) : gb112 ≠ gb109)); have n9_ := Aside0.mk ((by rw [hg]; exact Nat.ne_of_lt (blkl BK110.out) : gb110 ≠ gb112)); have n10_ := Aside0.mk ((by rw [hg]; exact Nat.ne_of_gt (blkl BK110.out) : gb112 ≠ gb110)); have n11_ := Aside0.mk ((by rw [hg]; exact Nat.ne_of_lt (blkl BK111.out) : gb111 ≠ gb112)); have n12_ := Aside0.mk ((by rw [hg]; exact Nat.ne_of_gt (blkl BK111.out) : gb112 ≠ gb111)); clear BK109; clear BK110; clear BK111; clear HB; have BK109 := n0_; have BK110 := n1_; have BK111 := n2_; have HB := n3_; have BK112 := n4_; have GW112 := n5_; have GE112 := n6_; have NB109_112 := n7_; have NB112_109 := n8_; have NB110_112 := n9_; have NB112_110 := n10_; have NB111_112 := n11_; have NB112_111 := n12_; clear n0_ n1_ n2_ n3_ n4_ n5_ n6_ n7_ n8_ n9_ n10_ n11_ n12_; clear hb hbox hg))
 (try simp only [Act.put, List.setIfInBounds_toArray, List.set_cons_zero, List.set_cons_succ])
 go_cut [18] (fun v18 wc => ∃ (kq : Nat) (x18_3 : Bool), v18 = .bool x18_3 ∧ Aside0 (stuff_Step.j0 kq x18_3 a0_0 a0_1 a1_0 a1_1 a1_2 a1_3 a1_4 a1_5 a1_6 a1_7 a2_0 a2_1 a2_2 a2_3 a2_4 a2_5 a2_6 = some (r1, r2, r3, r4, r5, r6, r7, r8, r9)) ∧ Aside0 (kq ≤ k) ∧ Aside0 (wc.heap[gb109]? = some (.cells #[.int .i64 a0_0, .bool a0_1] 23 (0, 0))) ∧ Aside0 (wc.heap[gb110]? = some (.cells #[.int .i64 a1_0, .int .i64 a1_1, .int .i64 a1_2, .int .i64 a1_3, .int .i64 a1_4, .int .i64 a1_5, .int .i64 a1_6, .string a1_7] 28 (0, 0))) ∧ Aside0 (wc.heap[gb111]? = some (.cells #[.int .i64 a2_0, .int .i64 a2_1, .int .i64 a2_2, .int .i64 a2_3, .int .i64 a2_4, .string a2_5, .int .i64 a2_6] 33 (0, 0))) ∧ Aside0 (wc.heap[gb112]? = some (.cells #[.int .i64 0, .int .i64 0, .int .i64 0, .int .i64 0, .int .i64 0, .int .i64 0, .int .i64 0, .string (⟨#[]⟩ : ByteArray)] 28 (0, 0))) ∧ Aside0 (Below w.heap.size w wc))
 case first =>
  have H := HC4.out
  clear HC4
  replace H := Option.bind_eq_some_iff.mp H
  obtain ⟨t113, A90, H⟩ := H
  replace H : (if t113 = 0 then ((stuff_accepts.f k a1_0 a1_1 a1_2 a1_3 a1_4 a1_5 a1_6 a1_7 a2_0 a2_1 a2_2 a2_3 a2_4 a2_5 a2_6).bind fun t114 => (stuff_Step.j0 k (!t114) a0_0 a0_1 a1_0 a1_1 a1_2 a1_3 a1_4 a1_5 a1_6 a1_7 a2_0 a2_1 a2_2 a2_3 a2_4 a2_5 a2_6)) else (stuff_Step.j0 k true a0_0 a0_1 a1_0 a1_1 a1_2 a1_3 a1_4 a1_5 a1_6 a1_7 a2_0 a2_1 a2_2 a2_3 a2_4 a2_5 a2_6)) = some (r1, r2, r3, r4, r5, r6, r7, r8, r9) := H
  have A9 := Aside0.mk A90
  clear A90
  by_cases c10 : t113 = 0
  ·rw [if_pos c10] at H
   have c10b0 : (t113 == 0) = true := beq_iff_eq.mpr c10
   have c10b1 : (t113 != 0) = false := bne_eq_false_iff_eq.mpr c10
   clear c10
   (first | rw [c10b0] | (simp only [i64_w, i32_w]; rw [c10b0]) | skip)
   replace H := Option.bind_eq_some_iff.mp H
   obtain ⟨t114, A110, H⟩ := H
   replace H : (stuff_Step.j0 k (!t114) a0_0 a0_1 a1_0 a1_1 a1_2 a1_3 a1_4 a1_5 a1_6 a1_7 a2_0 a2_1 a2_2 a2_3 a2_4 a2_5 a2_6) = some (r1, r2, r3, r4, r5, r6, r7, r8, r9) := H
   have A11 := Aside0.mk A110
   clear A110
   have H' := Aside0.mk H
   clear H
   have hnb12 := NB109_110.out
   have hnc12 := NB110_109.out
   have hnb13 := NB109_111.out
   have hnc13 := NB111_109.out
   have hnb14 := NB109_112.out
   have hnc14 := NB112_109.out
   have hcz15_0 : w8.cell? ⟨gb109, 0, none⟩ = some (.int .i64 a0_0) := (blk_cell BK109.out 0).trans rfl
   have hcz15_1 : w8.cell? ⟨gb109, 1, none⟩ = some (.bool a0_1) := (blk_cell BK109.out 1).trans rfl
   have hfz15_0 := blk_frozen BK109.out 0
   have hfz15_1 := blk_frozen BK109.out 1
   go_wp2_with (first | ((with_reducible refine gate_callee (f := 15) rfl ?_); refine goesL_ (some 11) rfl rfl Try.func15 (by kernel_rfl) rfl #[.agg #[.int .i64 a0_0, .bool a0_1]] rfl (by (try simp only [List.map_toArray, List.map_cons, List.map_nil]); first | done | rfl | (simp only [List.length_drop, List.length_take]; rfl)) ?_; (with_reducible refine (stuff_Check.calls a0_0 a0_1 t113 _ A9.out).mono ?_); rintro e w16 ⟨rfl, hb⟩; refine ⟨_, rfl, ?_⟩; have n0_ := Aside0.mk (blkb BK109.out hb); have n1_ := Aside0.mk (blkb BK110.out hb); have n2_ := Aside0.mk (blkb BK111.out hb); have n3_ := Aside0.mk (blkb BK112.out hb); have n4_ := Aside0.mk (below_step (hbw HB.out) hb); clear BK109; clear BK110; clear BK111; clear BK112; clear HB; have BK109 := n0_; have BK110 := n1_; have BK111 := n2_; have BK112 := n3_; have HB := n4_; clear n0_ n1_ n2_ n3_ n4_; (try clear hb); (try clear hb2); (try clear hk); (try clear hi); have hnb17 := NB110_111.out; have hnc17 := NB111_110.out; have hnb18 := NB110_112.out; have hnc18 := NB112_110.out; have hcz19_0 : w16.cell? ⟨gb110, 0, none⟩ = some (.int .i64 a1_0) := (blk_cell BK110.out 0).trans rfl; have hcz19_1 : w16.cell? ⟨gb110, 1, none⟩ = some (.int .i64 a1_1) := (blk_cell BK110.out 1).trans rfl; have hcz19_2 : w16.cell? ⟨gb110, 2, none⟩ = some (.int .i64 a1_2) := (blk_cell BK110.out 2).trans rfl; have hcz19_3 : w16.cell? ⟨gb110, 3, none⟩ = some (.int .i64 a1_3) := (blk_cell BK110.out 3).trans rfl; have hcz19_4 : w16.cell? ⟨gb110, 4, none⟩ = some (.int .i64 a1_4) := (blk_cell BK110.out 4).trans rfl; have hcz19_5 : w16.cell? ⟨gb110, 5, none⟩ = some (.int .i64 a1_5) := (blk_cell BK110.out 5).trans rfl; have hcz19_6 : w16.cell? ⟨gb110, 6, none⟩ = some (.int .i64 a1_6) := (blk_cell BK110.out 6).trans rfl; have hcz19_7 : w16.cell? ⟨gb110, 7, none⟩ = some (.string a1_7) := (blk_cell BK110.out 7).trans rfl; have hfz19_0 := blk_frozen BK110.out 0; have hfz19_1 := blk_frozen BK110.out 1; have hfz19_2 := blk_frozen BK110.out 2; have hfz19_3 := blk_frozen BK110.out 3; have hfz19_4 := blk_frozen BK110.out 4; have hfz19_5 := blk_frozen BK110.out 5; have hfz19_6 := blk_frozen BK110.out 6; have hfz19_7 := blk_frozen BK110.out 7; have hnb20 := NB111_112.out; have hnc20 := NB112_111.out; have hcz21_0 : w16.cell? ⟨gb111, 0, none⟩ = some (.int .i64 a2_0) := (blk_cell BK111.out 0).trans rfl; have hcz21_1 : w16.cell? ⟨gb111, 1, none⟩ = some (.int .i64 a2_1) := (blk_cell BK111.out 1).trans rfl; have hcz21_2 : w16.cell? ⟨gb111, 2, none⟩ = some (.int .i64 a2_2) := (blk_cell BK111.out 2).trans rfl; have hcz21_3 : w16.cell? ⟨gb111, 3, none⟩ = some (.int .i64 a2_3) := (blk_cell BK111.out 3).trans rfl; have hcz21_4 : w16.cell? ⟨gb111, 4, none⟩ = some (.int .i64 a2_4) := (blk_cell BK111.out 4).trans rfl; have hcz21_5 : w16.cell? ⟨gb111, 5, none⟩ = some (.string a2_5) := (blk_cell BK111.out 5).trans rfl; have hcz21_6 : w16.cell? ⟨gb111, 6, none⟩ = some (.int .i64 a2_6) := (blk_cell BK111.out 6).trans rfl; have hfz21_0 := blk_frozen BK111.out 0; have hfz21_1 := blk_frozen BK111.out 1; have hfz21_2 := blk_frozen BK111.out 2; have hfz21_3 := blk_frozen BK111.out 3; have hfz21_4 := blk_frozen BK111.out 4; have hfz21_5 := blk_frozen BK111.out 5; have hfz21_6 := blk_frozen BK111.out 6) | (go_at_call 24; (with_reducible refine (stuff_accepts.calls k a1_0 a1_1 a1_2 a1_3 a1_4 a1_5 a1_6 a1_7 a2_0 a2_1 a2_2 a2_3 a2_4 a2_5 a2_6 t114 _ A11.out).mono ?_); rintro e w22 ⟨rfl, hb⟩; have n0_ := Aside0.mk (blkb BK109.out hb); have n1_ := Aside0.mk (blkb BK110.out hb); have n2_ := Aside0.mk (blkb BK111.out hb); have n3_ := Aside0.mk (blkb BK112.out hb); have n4_ := Aside0.mk (below_step (hbw HB.out) hb); clear BK109; clear BK110; clear BK111; clear BK112; clear HB; have BK109 := n0_; have BK110 := n1_; have BK111 := n2_; have BK112 := n3_; have HB := n4_; clear n0_ n1_ n2_ n3_ n4_; (try clear hb); (try clear hb2); (try clear hk); (try clear hi)))
   go_meet
   case rel => exact ⟨_, (!t114), (by first | rfl | (simp; done) | (simp [*]; done)), H', ⟨by first | omega | exact Nat.le_refl _⟩, ⟨by (with_reducible repeat (first | refine blk_drewN ?_ _ | refine blk_drew ?_ | refine blk_alloc ?_ _)); exact BK109.out⟩, ⟨by (with_reducible repeat (first | refine blk_drewN ?_ _ | refine blk_drew ?_ | refine blk_alloc ?_ _)); exact BK110.out⟩, ⟨by (with_reducible repeat (first | refine blk_drewN ?_ _ | refine blk_drew ?_ | refine blk_alloc ?_ _)); exact BK111.out⟩, ⟨by (with_reducible repeat (first | refine blk_drewN ?_ _ | refine blk_drew ?_ | refine blk_alloc ?_ _)); exact BK112.out⟩, ⟨by repeat (first | (with_reducible first | exact HB.out | apply below_alloc | apply pw_below_drewN | apply below_drew1 | refine below_set ?_ GE109.out | refine below_set ?_ GE110.out | refine below_set ?_ GE111.out | refine below_set ?_ GE112.out) | exact HB.out)⟩⟩
  ·rw [if_neg c10] at H
   have c10b0 : (t113 == 0) = false := beq_eq_false_iff_ne.mpr c10
   have c10b1 : (t113 != 0) = true := bne_iff_ne.mpr c10
   (first | rw [c10b0] | (simp only [i64_w, i32_w]; rw [c10b0]) | skip)
   have H' := Aside0.mk H
   clear H
   have hnb23 := NB109_110.out
   have hnc23 := NB110_109.out
   have hnb24 := NB109_111.out
   have hnc24 := NB111_109.out
   have hnb25 := NB109_112.out
   have hnc25 := NB112_109.out
   have hcz26_0 : w8.cell? ⟨gb109, 0, none⟩ = some (.int .i64 a0_0) := (blk_cell BK109.out 0).trans rfl
   have hcz26_1 : w8.cell? ⟨gb109, 1, none⟩ = some (.bool a0_1) := (blk_cell BK109.out 1).trans rfl
   have hfz26_0 := blk_frozen BK109.out 0
   have hfz26_1 := blk_frozen BK109.out 1
   go_wp2_with (first | ((with_reducible refine gate_callee (f := 15) rfl ?_); refine goesL_ (some 11) rfl rfl Try.func15 (by kernel_rfl) rfl #[.agg #[.int .i64 a0_0, .bool a0_1]] rfl (by (try simp only [List.map_toArray, List.map_cons, List.map_nil]); first | done | rfl | (simp only [List.length_drop, List.length_take]; rfl)) ?_; (with_reducible refine (stuff_Check.calls a0_0 a0_1 t113 _ A9.out).mono ?_); rintro e w27 ⟨rfl, hb⟩; refine ⟨_, rfl, ?_⟩; have n0_ := Aside0.mk (blkb BK109.out hb); have n1_ := Aside0.mk (blkb BK110.out hb); have n2_ := Aside0.mk (blkb BK111.out hb); have n3_ := Aside0.mk (blkb BK112.out hb); have n4_ := Aside0.mk (below_step (hbw HB.out) hb); clear BK109; clear BK110; clear BK111; clear BK112; clear HB; have BK109 := n0_; have BK110 := n1_; have BK111 := n2_; have BK112 := n3_; have HB := n4_; clear n0_ n1_ n2_ n3_ n4_; (try clear hb); (try clear hb2); (try clear hk); (try clear hi)))
   go_meet
   case rel => exact ⟨_, (true), (by first | rfl | (simp; done) | (simp [*]; done)), H', ⟨by first | omega | exact Nat.le_refl _⟩, ⟨by (with_reducible repeat (first | refine blk_drewN ?_ _ | refine blk_drew ?_ | refine blk_alloc ?_ _)); exact BK109.out⟩, ⟨by (with_reducible repeat (first | refine blk_drewN ?_ _ | refine blk_drew ?_ | refine blk_alloc ?_ _)); exact BK110.out⟩, ⟨by (with_reducible repeat (first | refine blk_drewN ?_ _ | refine blk_drew ?_ | refine blk_alloc ?_ _)); exact BK111.out⟩, ⟨by (with_reducible repeat (first | refine blk_drewN ?_ _ | refine blk_drew ?_ | refine blk_alloc ?_ _)); exact BK112.out⟩, ⟨by repeat (first | (with_reducible first | exact HB.out | apply below_alloc | apply pw_below_drewN | apply below_drew1 | refine below_set ?_ GE109.out | refine below_set ?_ GE110.out | refine below_set ?_ GE111.out | refine below_set ?_ GE112.out) | exact HB.out)⟩⟩
 case rest =>
  clear HC4
  try clear c1
  try clear c2
  try clear p2
  try clear c10
  try clear c10b0
  try clear c10b1
  try clear c12
  try clear c13
  try clear c14
  try clear c15
  try clear c17
  try clear c18
  try clear c20
  try clear c23
  try clear c24
  try clear c25
  try clear hcz15_0
  try clear hcz15_1
  try clear hcz19_0
  try clear hcz19_1
  try clear hcz19_2
  try clear hcz19_3
  try clear hcz19_4
  try clear hcz19_5
  try clear hcz19_6
  try clear hcz19_7
  try clear hcz21_0
  try clear hcz21_1
  try clear hcz21_2
  try clear hcz21_3
  try clear hcz21_4
  try clear hcz21_5
  try clear hcz21_6
  try clear hcz26_0
  try clear hcz26_1
  try clear hfz15_0
  try clear hfz15_1
  try clear hfz19_0
  try clear hfz19_1
  try clear hfz19_2
  try clear hfz19_3
  try clear hfz19_4
  try clear hfz19_5
  try clear hfz19_6
  try clear hfz19_7
  try clear hfz21_0
  try clear hfz21_1
  try clear hfz21_2
  try clear hfz21_3
  try clear hfz21_4
  try clear hfz21_5
  try clear hfz21_6
  try clear hfz26_0
  try clear hfz26_1
  obtain ⟨kq, x18_3, rfl, HA, HJ3, BK109, BK110, BK111, BK112, HB⟩ := hcut
  cases kq with
  | zero => exact absurd HA.out (by simp [stuff_Step.j0])
  | succ kj3 =>
   have H := HA.out
   clear HA
   simp only [stuff_Step.j0] at H
   have HC28 := Aside0.mk H
   clear H
   go_upto_if 18 with (fail)
   go_cut [] (fun wc => ∃ (kq : Nat) (x113000_27 : Int) (x113001_27 : Int) (x113002_27 : Int) (x113003_27 : Int) (x113004_27 : Int) (x113005_27 : Int) (x113006_27 : Int) (x113007_27 : ByteArray), Aside0 (stuff_Step.j1 kq a0_0 a0_1 a1_0 a1_1 a1_2 a1_3 a1_4 a1_5 a1_6 a1_7 a2_0 a2_1 a2_2 a2_3 a2_4 a2_5 a2_6 = some (r1, r2, r3, r4, r5, r6, r7, r8, r9)) ∧ Aside0 (kq ≤ kj3) ∧ Aside0 (wc.heap[gb109]? = some (.cells #[.int .i64 a0_0, .bool a0_1] 23 (0, 0))) ∧ Aside0 (wc.heap[gb110]? = some (.cells #[.int .i64 a1_0, .int .i64 a1_1, .int .i64 a1_2, .int .i64 a1_3, .int .i64 a1_4, .int .i64 a1_5, .int .i64 a1_6, .string a1_7] 28 (0, 0))) ∧ Aside0 (wc.heap[gb111]? = some (.cells #[.int .i64 a2_0, .int .i64 a2_1, .int .i64 a2_2, .int .i64 a2_3, .int .i64 a2_4, .string a2_5, .int .i64 a2_6] 33 (0, 0))) ∧ Aside0 (wc.heap[gb112]? = some (.cells #[.int .i64 x113000_27, .int .i64 x113001_27, .int .i64 x113002_27, .int .i64 x113003_27, .int .i64 x113004_27, .int .i64 x113005_27, .int .i64 x113006_27, .string x113007_27] 28 (0, 0))) ∧ Aside0 (Below w.heap.size w wc))
   case first =>
    have H := HC28.out
    clear HC28
    by_cases c29 : x18_3 = true
    ·subst c29
     have H1 : (some (a1_0, a1_1, a1_2, a1_3, a1_4, a1_5, a1_6, a1_7, ([] : List (S33)))) = some (r1, r2, r3, r4, r5, r6, r7, r8, r9) := by rw [if_pos rfl] at H; exact H
     clear H
     have H := H1
     clear H1
     simp only [Option.some.injEq, Prod.mk.injEq] at H
     obtain ⟨rfl, rfl, rfl, rfl, rfl, rfl, rfl, rfl, rfl⟩ := H
     have hnb30 := NB110_109.out
     have hnc30 := NB109_110.out
     have hnb31 := NB110_111.out
     have hnc31 := NB111_110.out
     have hnb32 := NB110_112.out
     have hnc32 := NB112_110.out
     have hcz33_0 : wc.cell? ⟨gb110, 0, none⟩ = some (.int .i64 a1_0) := (blk_cell BK110.out 0).trans rfl
     have hcz33_1 : wc.cell? ⟨gb110, 1, none⟩ = some (.int .i64 a1_1) := (blk_cell BK110.out 1).trans rfl
     have hcz33_2 : wc.cell? ⟨gb110, 2, none⟩ = some (.int .i64 a1_2) := (blk_cell BK110.out 2).trans rfl
     have hcz33_3 : wc.cell? ⟨gb110, 3, none⟩ = some (.int .i64 a1_3) := (blk_cell BK110.out 3).trans rfl
     have hcz33_4 : wc.cell? ⟨gb110, 4, none⟩ = some (.int .i64 a1_4) := (blk_cell BK110.out 4).trans rfl
     have hcz33_5 : wc.cell? ⟨gb110, 5, none⟩ = some (.int .i64 a1_5) := (blk_cell BK110.out 5).trans rfl
     have hcz33_6 : wc.cell? ⟨gb110, 6, none⟩ = some (.int .i64 a1_6) := (blk_cell BK110.out 6).trans rfl
     have hcz33_7 : wc.cell? ⟨gb110, 7, none⟩ = some (.string a1_7) := (blk_cell BK110.out 7).trans rfl
     have hfz33_0 := blk_frozen BK110.out 0
     have hfz33_1 := blk_frozen BK110.out 1
     have hfz33_2 := blk_frozen BK110.out 2
     have hfz33_3 := blk_frozen BK110.out 3
     have hfz33_4 := blk_frozen BK110.out 4
     have hfz33_5 := blk_frozen BK110.out 5
     have hfz33_6 := blk_frozen BK110.out 6
     have hfz33_7 := blk_frozen BK110.out 7
     have hnb34 := NB112_109.out
     have hnc34 := NB109_112.out
     have hnb35 := NB112_111.out
     have hnc35 := NB111_112.out
     have hcz36_0 : wc.cell? ⟨gb112, 0, none⟩ = some (.int .i64 0) := (blk_cell BK112.out 0).trans rfl
     have hcz36_1 : wc.cell? ⟨gb112, 1, none⟩ = some (.int .i64 0) := (blk_cell BK112.out 1).trans rfl
     have hcz36_2 : wc.cell? ⟨gb112, 2, none⟩ = some (.int .i64 0) := (blk_cell BK112.out 2).trans rfl
     have hcz36_3 : wc.cell? ⟨gb112, 3, none⟩ = some (.int .i64 0) := (blk_cell BK112.out 3).trans rfl
     have hcz36_4 : wc.cell? ⟨gb112, 4, none⟩ = some (.int .i64 0) := (blk_cell BK112.out 4).trans rfl
     have hcz36_5 : wc.cell? ⟨gb112, 5, none⟩ = some (.int .i64 0) := (blk_cell BK112.out 5).trans rfl
     have hcz36_6 : wc.cell? ⟨gb112, 6, none⟩ = some (.int .i64 0) := (blk_cell BK112.out 6).trans rfl
     have hcz36_7 : wc.cell? ⟨gb112, 7, none⟩ = some (.string (⟨#[]⟩ : ByteArray)) := (blk_cell BK112.out 7).trans rfl
     have hfz36_0 := blk_frozen BK112.out 0
     have hfz36_1 := blk_frozen BK112.out 1
     have hfz36_2 := blk_frozen BK112.out 2
     have hfz36_3 := blk_frozen BK112.out 3
     have hfz36_4 := blk_frozen BK112.out 4
     have hfz36_5 := blk_frozen BK112.out 5
     have hfz36_6 := blk_frozen BK112.out 6
     have hfz36_7 := blk_frozen BK112.out 7
     go_wp2
     refine bodyPost_ret (results_ct rfl _ _ gb112 28 #[.int .i64 a1_0, .int .i64 a1_1, .int .i64 a1_2, .int .i64 a1_3, .int .i64 a1_4, .int .i64 a1_5, .int .i64 a1_6, .string a1_7] (0, 0) _ rfl (by (with_reducible repeat (first | refine blk_drewN ?_ _ | refine blk_drew ?_ | refine blk_alloc ?_ _)); refine blk_put (cs := #[.int .i64 a1_0, .int .i64 a1_1, .int .i64 a1_2, .int .i64 a1_3, .int .i64 a1_4, .int .i64 a1_5, .int .i64 a1_6, .string (⟨#[]⟩ : ByteArray)]) ?_ 7 _ rfl; (with_reducible repeat (first | refine blk_drewN ?_ _ | refine blk_drew ?_ | refine blk_alloc ?_ _)); refine blk_put (cs := #[.int .i64 a1_0, .int .i64 a1_1, .int .i64 a1_2, .int .i64 a1_3, .int .i64 a1_4, .int .i64 a1_5, .int .i64 0, .string (⟨#[]⟩ : ByteArray)]) ?_ 6 _ rfl; (with_reducible repeat (first | refine blk_drewN ?_ _ | refine blk_drew ?_ | refine blk_alloc ?_ _)); refine blk_put (cs := #[.int .i64 a1_0, .int .i64 a1_1, .int .i64 a1_2, .int .i64 a1_3, .int .i64 a1_4, .int .i64 0, .int .i64 0, .string (⟨#[]⟩ : ByteArray)]) ?_ 5 _ rfl; (with_reducible repeat (first | refine blk_drewN ?_ _ | refine blk_drew ?_ | refine blk_alloc ?_ _)); refine blk_put (cs := #[.int .i64 a1_0, .int .i64 a1_1, .int .i64 a1_2, .int .i64 a1_3, .int .i64 0, .int .i64 0, .int .i64 0, .string (⟨#[]⟩ : ByteArray)]) ?_ 4 _ rfl; (with_reducible repeat (first | refine blk_drewN ?_ _ | refine blk_drew ?_ | refine blk_alloc ?_ _)); refine blk_put (cs := #[.int .i64 a1_0, .int .i64 a1_1, .int .i64 a1_2, .int .i64 0, .int .i64 0, .int .i64 0, .int .i64 0, .string (⟨#[]⟩ : ByteArray)]) ?_ 3 _ rfl; (with_reducible repeat (first | refine blk_drewN ?_ _ | refine blk_drew ?_ | refine blk_alloc ?_ _)); refine blk_put (cs := #[.int .i64 a1_0, .int .i64 a1_1, .int .i64 0, .int .i64 0, .int .i64 0, .int .i64 0, .int .i64 0, .string (⟨#[]⟩ : ByteArray)]) ?_ 2 _ rfl; (with_reducible repeat (first | refine blk_drewN ?_ _ | refine blk_drew ?_ | refine blk_alloc ?_ _)); refine blk_put (cs := #[.int .i64 a1_0, .int .i64 0, .int .i64 0, .int .i64 0, .int .i64 0, .int .i64 0, .int .i64 0, .string (⟨#[]⟩ : ByteArray)]) ?_ 1 _ rfl; (with_reducible repeat (first | refine blk_drewN ?_ _ | refine blk_drew ?_ | refine blk_alloc ?_ _)); refine blk_put (cs := #[.int .i64 0, .int .i64 0, .int .i64 0, .int .i64 0, .int .i64 0, .int .i64 0, .int .i64 0, .string (⟨#[]⟩ : ByteArray)]) ?_ 0 _ rfl; (with_reducible repeat (first | refine blk_drewN ?_ _ | refine blk_drew ?_ | refine blk_alloc ?_ _)); exact BK112.out) Try.underlying28 rfl (by kernel_rfl)) rfl ?_
     exact ⟨_, by first | rfl | (simp [errW_none, errW_some] <;> rfl) | (simp [*, errW_none, errW_some] <;> rfl), by first | exact Kd.R_nil _ _ _ _ _ | exact Kd.N_nil _ _ _ _ _ | exact Kd.V_nil _ _ _ _ _ | exact Kd.Q_nil _ _ _ _ _ | exact Kd.S_nil _ _ _ _ _, by repeat (first | (with_reducible first | exact HB.out | apply below_alloc | apply pw_below_drewN | apply below_drew1 | refine below_set ?_ GE109.out | refine below_set ?_ GE110.out | refine below_set ?_ GE111.out | refine below_set ?_ GE112.out) | exact HB.out)⟩
    ·replace c29 := Bool.eq_false_iff.mpr c29
     subst c29
     have H1 : (stuff_Step.j1 kj3 a0_0 a0_1 a1_0 a1_1 a1_2 a1_3 a1_4 a1_5 a1_6 a1_7 a2_0 a2_1 a2_2 a2_3 a2_4 a2_5 a2_6) = some (r1, r2, r3, r4, r5, r6, r7, r8, r9) := by rw [if_neg (show ¬ (false = true) by decide)] at H; exact H
     clear H
     have H := H1
     clear H1
     have H' := Aside0.mk H
     clear H
     go_wp2
     go_meet
     case rel => exact ⟨_, (0), (0), (0), (0), (0), (0), (0), ((⟨#[]⟩ : ByteArray)), H', ⟨by have := HJ3.out; first | omega | exact Nat.le_refl _⟩, ⟨by (with_reducible repeat (first | refine blk_drewN ?_ _ | refine blk_drew ?_ | refine blk_alloc ?_ _)); exact BK109.out⟩, ⟨by (with_reducible repeat (first | refine blk_drewN ?_ _ | refine blk_drew ?_ | refine blk_alloc ?_ _)); exact BK110.out⟩, ⟨by (with_reducible repeat (first | refine blk_drewN ?_ _ | refine blk_drew ?_ | refine blk_alloc ?_ _)); exact BK111.out⟩, ⟨by (with_reducible repeat (first | refine blk_drewN ?_ _ | refine blk_drew ?_ | refine blk_alloc ?_ _)); exact BK112.out⟩, ⟨by repeat (first | (with_reducible first | exact HB.out | apply below_alloc | apply pw_below_drewN | apply below_drew1 | refine below_set ?_ GE109.out | refine below_set ?_ GE110.out | refine below_set ?_ GE111.out | refine below_set ?_ GE112.out) | exact HB.out)⟩⟩
   case rest =>
    clear HC28
    try clear c1
    try clear c2
    try clear p2
    try clear c3
    try clear c10
    try clear c10b0
    try clear c10b1
    try clear c12
    try clear c13
    try clear c14
    try clear c15
    try clear c17
    try clear c18
    try clear c20
    try clear c23
    try clear c24
    try clear c25
    try clear c29
    try clear c30
    try clear c31
    try clear c32
    try clear c34
    try clear c35
    try clear hcz15_0
    try clear hcz15_1
    try clear hcz19_0
    try clear hcz19_1
    try clear hcz19_2
    try clear hcz19_3
    try clear hcz19_4
    try clear hcz19_5
    try clear hcz19_6
    try clear hcz19_7
    try clear hcz21_0
    try clear hcz21_1
    try clear hcz21_2
    try clear hcz21_3
    try clear hcz21_4
    try clear hcz21_5
    try clear hcz21_6
    try clear hcz26_0
    try clear hcz26_1
    try clear hcz33_0
    try clear hcz33_1
    try clear hcz33_2
    try clear hcz33_3
    try clear hcz33_4
    try clear hcz33_5
    try clear hcz33_6
    try clear hcz33_7
    try clear hcz36_0
    try clear hcz36_1
    try clear hcz36_2
    try clear hcz36_3
    try clear hcz36_4
    try clear hcz36_5
    try clear hcz36_6
    try clear hcz36_7
    try clear hfz15_0
    try clear hfz15_1
    try clear hfz19_0
    try clear hfz19_1
    try clear hfz19_2
    try clear hfz19_3
    try clear hfz19_4
    try clear hfz19_5
    try clear hfz19_6
    try clear hfz19_7
    try clear hfz21_0
    try clear hfz21_1
    try clear hfz21_2
    try clear hfz21_3
    try clear hfz21_4
    try clear hfz21_5
    try clear hfz21_6
    try clear hfz26_0
    try clear hfz26_1
    try clear hfz33_0
    try clear hfz33_1
    try clear hfz33_2
    try clear hfz33_3
    try clear hfz33_4
    try clear hfz33_5
    try clear hfz33_6
    try clear hfz33_7
    try clear hfz36_0
    try clear hfz36_1
    try clear hfz36_2
    try clear hfz36_3
    try clear hfz36_4
    try clear hfz36_5
    try clear hfz36_6
    try clear hfz36_7
    try clear p2
    obtain ⟨kq, x113000_27, x113001_27, x113002_27, x113003_27, x113004_27, x113005_27, x113006_27, x113007_27, HA, HJ27, BK109, BK110, BK111, BK112, HB⟩ := hcut
    cases kq with
    | zero => exact absurd HA.out (by simp [stuff_Step.j1])
    | succ kj27 =>
     have H := HA.out
     clear HA
     simp only [stuff_Step.j1] at H
     by_cases c37 : a2_6 = 0
     ·rw [if_pos c37] at H
      have c37b0 : (a2_6 == 0) = true := beq_iff_eq.mpr c37
      have c37b1 : (a2_6 != 0) = false := bne_eq_false_iff_eq.mpr c37
      clear c37
      by_cases c38 : a1_3 = a0_0
      ·rw [if_pos c38] at H
       have c38b0 : (a1_3 == a0_0) = true := beq_iff_eq.mpr c38
       have c38b1 : (a1_3 != a0_0) = false := bne_eq_false_iff_eq.mpr c38
       clear c38
       by_cases c39 : a2_3 = (wrap64 (1 - a1_6))
       ·rw [if_pos c39] at H
        have c39b0 : (a2_3 == (wrap64 (1 - a1_6))) = true := beq_iff_eq.mpr c39
        have c39b1 : (a2_3 != (wrap64 (1 - a1_6))) = false := bne_eq_false_iff_eq.mpr c39
        clear c39
        replace H := Option.bind_eq_some_iff.mp H
        obtain ⟨⟨t119, t120⟩, A400, H⟩ := H
        replace H : (some (a1_0, a2_1, a1_2, t119, a1_4, a1_5, t120, a1_7, ([] : List (S33)))) = some (r1, r2, r3, r4, r5, r6, r7, r8, r9) := H
        have A40 := Aside0.mk A400
        clear A400
        simp only [Option.some.injEq, Prod.mk.injEq] at H
        obtain ⟨rfl, rfl, rfl, rfl, rfl, rfl, rfl, rfl, rfl⟩ := H
        have hnb41 := NB111_109.out
        have hnc41 := NB109_111.out
        have hnb42 := NB111_110.out
        have hnc42 := NB110_111.out
        have hnb43 := NB111_112.out
        have hnc43 := NB112_111.out
        have hcz44_0 : wc.cell? ⟨gb111, 0, none⟩ = some (.int .i64 a2_0) := (blk_cell BK111.out 0).trans rfl
        have hcz44_1 : wc.cell? ⟨gb111, 1, none⟩ = some (.int .i64 a2_1) := (blk_cell BK111.out 1).trans rfl
        have hcz44_2 : wc.cell? ⟨gb111, 2, none⟩ = some (.int .i64 a2_2) := (blk_cell BK111.out 2).trans rfl
        have hcz44_3 : wc.cell? ⟨gb111, 3, none⟩ = some (.int .i64 a2_3) := (blk_cell BK111.out 3).trans rfl
        have hcz44_4 : wc.cell? ⟨gb111, 4, none⟩ = some (.int .i64 a2_4) := (blk_cell BK111.out 4).trans rfl
        have hcz44_5 : wc.cell? ⟨gb111, 5, none⟩ = some (.string a2_5) := (blk_cell BK111.out 5).trans rfl
        have hcz44_6 : wc.cell? ⟨gb111, 6, none⟩ = some (.int .i64 a2_6) := (blk_cell BK111.out 6).trans rfl
        have hfz44_0 := blk_frozen BK111.out 0
        have hfz44_1 := blk_frozen BK111.out 1
        have hfz44_2 := blk_frozen BK111.out 2
        have hfz44_3 := blk_frozen BK111.out 3
        have hfz44_4 := blk_frozen BK111.out 4
        have hfz44_5 := blk_frozen BK111.out 5
        have hfz44_6 := blk_frozen BK111.out 6
        have hnb45 := NB110_109.out
        have hnc45 := NB109_110.out
        have hnb46 := NB110_112.out
        have hnc46 := NB112_110.out
        have hcz47_0 : wc.cell? ⟨gb110, 0, none⟩ = some (.int .i64 a1_0) := (blk_cell BK110.out 0).trans rfl
        have hcz47_1 : wc.cell? ⟨gb110, 1, none⟩ = some (.int .i64 a1_1) := (blk_cell BK110.out 1).trans rfl
        have hcz47_2 : wc.cell? ⟨gb110, 2, none⟩ = some (.int .i64 a1_2) := (blk_cell BK110.out 2).trans rfl
        have hcz47_3 : wc.cell? ⟨gb110, 3, none⟩ = some (.int .i64 a1_3) := (blk_cell BK110.out 3).trans rfl
        have hcz47_4 : wc.cell? ⟨gb110, 4, none⟩ = some (.int .i64 a1_4) := (blk_cell BK110.out 4).trans rfl
        have hcz47_5 : wc.cell? ⟨gb110, 5, none⟩ = some (.int .i64 a1_5) := (blk_cell BK110.out 5).trans rfl
        have hcz47_6 : wc.cell? ⟨gb110, 6, none⟩ = some (.int .i64 a1_6) := (blk_cell BK110.out 6).trans rfl
        have hcz47_7 : wc.cell? ⟨gb110, 7, none⟩ = some (.string a1_7) := (blk_cell BK110.out 7).trans rfl
        have hfz47_0 := blk_frozen BK110.out 0
        have hfz47_1 := blk_frozen BK110.out 1
        have hfz47_2 := blk_frozen BK110.out 2
        have hfz47_3 := blk_frozen BK110.out 3
        have hfz47_4 := blk_frozen BK110.out 4
        have hfz47_5 := blk_frozen BK110.out 5
        have hfz47_6 := blk_frozen BK110.out 6
        have hfz47_7 := blk_frozen BK110.out 7
        go_wp2_with (first | ((with_reducible refine gate_dst (N := 8) rfl ?_); refine box_event ?hg (N := 8) ?hd (cs := #[.int .i64 0, .int .i64 0, .int .i64 0, .int .i64 0, .int .i64 0, .string (⟨#[]⟩ : ByteArray), .int .i64 0]) (t := 33) ?hr ?_; (case hd => rfl); (case hg => rfl); (case hr => first | (go_simp; done) | (go_simp; rfl)); intro gb115 hg w48 hbox hb; have n0_ := Aside0.mk (blk_below (g := gb109) (o := .cells #[.int .i64 a0_0, .bool a0_1] 23 (0, 0)) (by (with_reducible repeat (first | refine blk_drewN ?_ _ | refine blk_drew ?_ | refine blk_alloc ?_ _)); refine blk_far ?_ NB109_110.out _; (with_reducible repeat (first | refine blk_drewN ?_ _ | refine blk_drew ?_ | refine blk_alloc ?_ _)); exact BK109.out) hb); have n1_ := Aside0.mk (blk_below (g := gb110) (o := .cells #[.int .i64 a1_0, .int .i64 a2_1, .int .i64 a1_2, .int .i64 a1_3, .int .i64 a1_4, .int .i64 a1_5, .int .i64 a1_6, .string a1_7] 28 (0, 0)) (by (with_reducible repeat (first | refine blk_drewN ?_ _ | refine blk_drew ?_ | refine blk_alloc ?_ _)); refine blk_put (cs := #[.int .i64 a1_0, .int .i64 a1_1, .int .i64 a1_2, .int .i64 a1_3, .int .i64 a1_4, .int .i64 a1_5, .int .i64 a1_6, .string a1_7]) ?_ 1 _ rfl; (with_reducible repeat (first | refine blk_drewN ?_ _ | refine blk_drew ?_ | refine blk_alloc ?_ _)); exact BK110.out) hb); have n2_ := Aside0.mk (blk_below (g := gb111) (o := .cells #[.int .i64 a2_0, .int .i64 a2_1, .int .i64 a2_2, .int .i64 a2_3, .int .i64 a2_4, .string a2_5, .int .i64 a2_6] 33 (0, 0)) (by (with_reducible repeat (first | refine blk_drewN ?_ _ | refine blk_drew ?_ | refine blk_alloc ?_ _)); refine blk_far ?_ NB111_110.out _; (with_reducible repeat (first | refine blk_drewN ?_ _ | refine blk_drew ?_ | refine blk_alloc ?_ _)); exact BK111.out) hb); have n3_ := Aside0.mk (blk_below (g := gb112) (o := .cells #[.int .i64 x113000_27, .int .i64 x113001_27, .int .i64 x113002_27, .int .i64 x113003_27, .int .i64 x113004_27, .int .i64 x113005_27, .int .i64 x113006_27, .string x113007_27] 28 (0, 0)) (by (with_reducible repeat (first | refine blk_drewN ?_ _ | refine blk_drew ?_ | refine blk_alloc ?_ _)); refine blk_far ?_ NB112_110.out _; (with_reducible repeat (first | refine blk_drewN ?_ _ | refine blk_drew ?_ | refine blk_alloc ?_ _)); exact BK112.out) hb); have n4_ := Aside0.mk (below_step (hbw HB.out) hb); have n5_ := Aside0.mk (hbox); have n6_ := Aside0.mk ((by rw [hg]; exact (below_size (hbw HB.out)) : w.heap.size ≤ gb115)); have n7_ := Aside0.mk ((by rw [hg]; exact (below_size (hbw HB.out)) : w.heap.size ≤ gb115)); have n8_ := Aside0.mk ((by rw [hg]; exact Nat.ne_of_lt (blk_lt (g := gb109) (o := .cells #[.int .i64 a0_0, .bool a0_1] 23 (0, 0)) (by (with_reducible repeat (first | refine blk_drewN ?_ _ | refine blk_drew ?_ | refine blk_alloc ?_ _)); refine blk_far ?_ NB109_110.out _; (with_reducible repeat (first | refine blk_drewN ?_ _ | refine blk_drew ?_ | refine blk_alloc ?_ _)); exact BK109.out)) : gb109 ≠ gb115)); have n9_ := Aside0.mk ((by rw [hg]; exact Nat.ne_of_gt (blk_lt (g := gb109) (o := .cells #[.int .i64 a0_0, .bool a0_1] 23 (0, 0)) (by (with_reducible repeat (first | refine blk_drewN ?_ _ | refine blk_drew ?_ | refine blk_alloc ?_ _)); refine blk_far ?_ NB109_110.out _; (with_reducible repeat (first | refine blk_drewN ?_ _ | refine blk_drew ?_ | refine blk_alloc ?_ _)); exact BK109.out)) : gb115 ≠ gb109)); have n10_ := Aside0.mk ((by rw [hg]; exact Nat.ne_of_lt (blk_lt (g := gb110) (o := .cells #[.int .i64 a1_0, .int .i64 a2_1, .int .i64 a1_2, .int .i64 a1_3, .int .i64 a1_4, .int .i64 a1_5, .int .i64 a1_6, .string a1_7] 28 (0, 0)) (by (with_reducible repeat (first | refine blk_drewN ?_ _ | refine blk_drew ?_ | refine blk_alloc ?_ _)); refine blk_put (cs := #[.int .i64 a1_0, .int .i64 a1_1, .int .i64 a1_2, .int .i64 a1_3, .int .i64 a1_4, .int .i64 a1_5, .int .i64 a1_6, .string a1_7]) ?_ 1 _ rfl; (with_reducible repeat (first | refine blk_drewN ?_ _ | refine blk_drew ?_ | refine blk_alloc ?_ _)); exact BK110.out)) : gb110 ≠ gb115)); have n11_ := Aside0.mk ((by rw [hg]; exact Nat.ne_of_gt (blk_lt (g := gb110) (o := .cells #[.int .i64 a1_0, .int .i64 a2_1, .int .i64 a1_2, .int .i64 a1_3, .int .i64 a1_4, .int .i64 a1_5, .int .i64 a1_6, .string a1_7] 28 (0, 0)) (by (with_reducible repeat (first | refine blk_drewN ?_ _ | refine blk_drew ?_ | refine blk_alloc ?_ _)); refine blk_put (cs := #[.int .i64 a1_0, .int .i64 a1_1, .int .i64 a1_2, .int .i64 a1_3, .int .i64 a1_4, .int .i64 a1_5, .int .i64 a1_6, .string a1_7]) ?_ 1 _ rfl; (with_reducible repeat (first | refine blk_drewN ?_ _ | refine blk_drew ?_ | refine blk_alloc ?_ _)); exact BK110.out)) : gb115 ≠ gb110)); have n12_ := Aside0.mk ((by rw [hg]; exact Nat.ne_of_lt (blk_lt (g := gb111) (o := .cells #[.int .i64 a2_0, .int .i64 a2_1, .int .i64 a2_2, .int .i64 a2_3, .int .i64 a2_4, .string a2_5, .int .i64 a2_6] 33 (0, 0)) (by (with_reducible repeat (first | refine blk_drewN ?_ _ | refine blk_drew ?_ | refine blk_alloc ?_ _)); refine blk_far ?_ NB111_110.out _; (with_reducible repeat (first | refine blk_drewN ?_ _ | refine blk_drew ?_ | refine blk_alloc ?_ _)); exact BK111.out)) : gb111 ≠ gb115)); have n13_ := Aside0.mk ((by rw [hg]; exact Nat.ne_of_gt (blk_lt (g := gb111) (o := .cells #[.int .i64 a2_0, .int .i64 a2_1, .int .i64 a2_2, .int .i64 a2_3, .int .i64 a2_4, .string a2_5, .int .i64 a2_6] 33 (0, 0)) (by (with_reducible repeat (first | refine blk_drewN ?_ _ | refine blk_drew ?_ | refine blk_alloc ?_ _)); refine blk_far ?_ NB111_110.out _; (with_reducible repeat (first | refine blk_drewN ?_ _ | refine blk_drew ?_ | refine blk_alloc ?_ _)); exact BK111.out)) : gb115 ≠ gb111)); have n14_ := Aside0.mk ((by rw [hg]; exact Nat.ne_of_lt (blk_lt (g := gb112) (o := .cells #[.int .i64 x113000_27, .int .i64 x113001_27, .int .i64 x113002_27, .int .i64 x113003_27, .int .i64 x113004_27, .int .i64 x113005_27, .int .i64 x113006_27, .string x113007_27] 28 (0, 0)) (by (with_reducible repeat (first | refine blk_drewN ?_ _ | refine blk_drew ?_ | refine blk_alloc ?_ _)); refine blk_far ?_ NB112_110.out _; (with_reducible repeat (first | refine blk_drewN ?_ _ | refine blk_drew ?_ | refine blk_alloc ?_ _)); exact BK112.out)) : gb112 ≠ gb115)); have n15_ := Aside0.mk ((by rw [hg]; exact Nat.ne_of_gt (blk_lt (g := gb112) (o := .cells #[.int .i64 x113000_27, .int .i64 x113001_27, .int .i64 x113002_27, .int .i64 x113003_27, .int .i64 x113004_27, .int .i64 x113005_27, .int .i64 x113006_27, .string x113007_27] 28 (0, 0)) (by (with_reducible repeat (first | refine blk_drewN ?_ _ | refine blk_drew ?_ | refine blk_alloc ?_ _)); refine blk_far ?_ NB112_110.out _; (with_reducible repeat (first | refine blk_drewN ?_ _ | refine blk_drew ?_ | refine blk_alloc ?_ _)); exact BK112.out)) : gb115 ≠ gb112)); clear BK109; clear BK110; clear BK111; clear BK112; clear HB; have BK109 := n0_; have BK110 := n1_; have BK111 := n2_; have BK112 := n3_; have HB := n4_; have BK115 := n5_; have GW115 := n6_; have GE115 := n7_; have NB109_115 := n8_; have NB115_109 := n9_; have NB110_115 := n10_; have NB115_110 := n11_; have NB111_115 := n12_; have NB115_111 := n13_; have NB112_115 := n14_; have NB115_112 := n15_; clear n0_ n1_ n2_ n3_ n4_ n5_ n6_ n7_ n8_ n9_ n10_ n11_ n12_ n13_ n14_ n15_; clear hb hbox hg; have hnb49 := NB115_109.out; have hnc49 := NB109_115.out; have hnb50 := NB115_110.out; have hnc50 := NB110_115.out; have hnb51 := NB115_111.out; have hnc51 := NB111_115.out; have hnb52 := NB115_112.out; have hnc52 := NB112_115.out; have hcz53_0 : w48.cell? ⟨gb115, 0, none⟩ = some (.int .i64 0) := (blk_cell BK115.out 0).trans rfl; have hcz53_1 : w48.cell? ⟨gb115, 1, none⟩ = some (.int .i64 0) := (blk_cell BK115.out 1).trans rfl; have hcz53_2 : w48.cell? ⟨gb115, 2, none⟩ = some (.int .i64 0) := (blk_cell BK115.out 2).trans rfl; have hcz53_3 : w48.cell? ⟨gb115, 3, none⟩ = some (.int .i64 0) := (blk_cell BK115.out 3).trans rfl; have hcz53_4 : w48.cell? ⟨gb115, 4, none⟩ = some (.int .i64 0) := (blk_cell BK115.out 4).trans rfl; have hcz53_5 : w48.cell? ⟨gb115, 5, none⟩ = some (.string (⟨#[]⟩ : ByteArray)) := (blk_cell BK115.out 5).trans rfl; have hcz53_6 : w48.cell? ⟨gb115, 6, none⟩ = some (.int .i64 0) := (blk_cell BK115.out 6).trans rfl; have hfz53_0 := blk_frozen BK115.out 0; have hfz53_1 := blk_frozen BK115.out 1; have hfz53_2 := blk_frozen BK115.out 2; have hfz53_3 := blk_frozen BK115.out 3; have hfz53_4 := blk_frozen BK115.out 4; have hfz53_5 := blk_frozen BK115.out 5; have hfz53_6 := blk_frozen BK115.out 6; have hcz54_0 : w48.cell? ⟨gb111, 0, none⟩ = some (.int .i64 a2_0) := (blk_cell BK111.out 0).trans rfl; have hcz54_1 : w48.cell? ⟨gb111, 1, none⟩ = some (.int .i64 a2_1) := (blk_cell BK111.out 1).trans rfl; have hcz54_2 : w48.cell? ⟨gb111, 2, none⟩ = some (.int .i64 a2_2) := (blk_cell BK111.out 2).trans rfl; have hcz54_3 : w48.cell? ⟨gb111, 3, none⟩ = some (.int .i64 a2_3) := (blk_cell BK111.out 3).trans rfl; have hcz54_4 : w48.cell? ⟨gb111, 4, none⟩ = some (.int .i64 a2_4) := (blk_cell BK111.out 4).trans rfl; have hcz54_5 : w48.cell? ⟨gb111, 5, none⟩ = some (.string a2_5) := (blk_cell BK111.out 5).trans rfl; have hcz54_6 : w48.cell? ⟨gb111, 6, none⟩ = some (.int .i64 a2_6) := (blk_cell BK111.out 6).trans rfl; have hfz54_0 := blk_frozen BK111.out 0; have hfz54_1 := blk_frozen BK111.out 1; have hfz54_2 := blk_frozen BK111.out 2; have hfz54_3 := blk_frozen BK111.out 3; have hfz54_4 := blk_frozen BK111.out 4; have hfz54_5 := blk_frozen BK111.out 5; have hfz54_6 := blk_frozen BK111.out 6; have hcz55_0 : w48.cell? ⟨gb110, 0, none⟩ = some (.int .i64 a1_0) := (blk_cell BK110.out 0).trans rfl; have hcz55_1 : w48.cell? ⟨gb110, 1, none⟩ = some (.int .i64 a2_1) := (blk_cell BK110.out 1).trans rfl; have hcz55_2 : w48.cell? ⟨gb110, 2, none⟩ = some (.int .i64 a1_2) := (blk_cell BK110.out 2).trans rfl; have hcz55_3 : w48.cell? ⟨gb110, 3, none⟩ = some (.int .i64 a1_3) := (blk_cell BK110.out 3).trans rfl; have hcz55_4 : w48.cell? ⟨gb110, 4, none⟩ = some (.int .i64 a1_4) := (blk_cell BK110.out 4).trans rfl; have hcz55_5 : w48.cell? ⟨gb110, 5, none⟩ = some (.int .i64 a1_5) := (blk_cell BK110.out 5).trans rfl; have hcz55_6 : w48.cell? ⟨gb110, 6, none⟩ = some (.int .i64 a1_6) := (blk_cell BK110.out 6).trans rfl; have hcz55_7 : w48.cell? ⟨gb110, 7, none⟩ = some (.string a1_7) := (blk_cell BK110.out 7).trans rfl; have hfz55_0 := blk_frozen BK110.out 0; have hfz55_1 := blk_frozen BK110.out 1; have hfz55_2 := blk_frozen BK110.out 2; have hfz55_3 := blk_frozen BK110.out 3; have hfz55_4 := blk_frozen BK110.out 4; have hfz55_5 := blk_frozen BK110.out 5; have hfz55_6 := blk_frozen BK110.out 6; have hfz55_7 := blk_frozen BK110.out 7; have hnb56 := NB109_112.out; have hnc56 := NB112_109.out; have hcz57_0 : w48.cell? ⟨gb109, 0, none⟩ = some (.int .i64 a0_0) := (blk_cell BK109.out 0).trans rfl; have hcz57_1 : w48.cell? ⟨gb109, 1, none⟩ = some (.bool a0_1) := (blk_cell BK109.out 1).trans rfl; have hfz57_0 := blk_frozen BK109.out 0; have hfz57_1 := blk_frozen BK109.out 1) | ((with_reducible refine gate_callee (f := 25) rfl ?_); refine goesL_ (some 76) rfl rfl Try.func25 (by kernel_rfl) rfl #[.agg #[.int .i64 a0_0, .bool a0_1], .int .i64 0, .int .i64 a1_6, .int .i64 a2_3] rfl (by (try simp only [List.map_toArray, List.map_cons, List.map_nil]); first | done | rfl | (simp only [List.length_drop, List.length_take]; rfl)) ?_; (with_reducible refine (stuff_count.calls kj27 a0_0 a0_1 0 a1_6 a2_3 t119 t120 _ A40.out).mono ?_); rintro e w58 ⟨rfl, hb⟩; refine ⟨_, rfl, ?_⟩; have n0_ := Aside0.mk (blk_below (g := gb109) (o := .cells #[.int .i64 a0_0, .bool a0_1] 23 (0, 0)) (by (with_reducible repeat (first | refine blk_drewN ?_ _ | refine blk_drew ?_ | refine blk_alloc ?_ _)); refine blk_far ?_ NB109_110.out _; (with_reducible repeat (first | refine blk_drewN ?_ _ | refine blk_drew ?_ | refine blk_alloc ?_ _)); refine blk_far ?_ NB109_115.out _; (with_reducible repeat (first | refine blk_drewN ?_ _ | refine blk_drew ?_ | refine blk_alloc ?_ _)); refine blk_far ?_ NB109_115.out _; (with_reducible repeat (first | refine blk_drewN ?_ _ | refine blk_drew ?_ | refine blk_alloc ?_ _)); refine blk_far ?_ NB109_115.out _; (with_reducible repeat (first | refine blk_drewN ?_ _ | refine blk_drew ?_ | refine blk_alloc ?_ _)); refine blk_far ?_ NB109_115.out _; (with_reducible repeat (first | refine blk_drewN ?_ _ | refine blk_drew ?_ | refine blk_alloc ?_ _)); refine blk_far ?_ NB109_115.out _; (with_reducible repeat (first | refine blk_drewN ?_ _ | refine blk_drew ?_ | refine blk_alloc ?_ _)); refine blk_far ?_ NB109_115.out _; (with_reducible repeat (first | refine blk_drewN ?_ _ | refine blk_drew ?_ | refine blk_alloc ?_ _)); refine blk_far ?_ NB109_115.out _; (with_reducible repeat (first | refine blk_drewN ?_ _ | refine blk_drew ?_ | refine blk_alloc ?_ _)); exact BK109.out) hb); have n1_ := Aside0.mk (blk_below (g := gb110) (o := .cells #[.int .i64 a1_0, .int .i64 a2_1, .int .i64 a1_2, .int .i64 0, .int .i64 a1_4, .int .i64 a1_5, .int .i64 a1_6, .string a1_7] 28 (0, 0)) (by (with_reducible repeat (first | refine blk_drewN ?_ _ | refine blk_drew ?_ | refine blk_alloc ?_ _)); refine blk_put (cs := #[.int .i64 a1_0, .int .i64 a2_1, .int .i64 a1_2, .int .i64 a1_3, .int .i64 a1_4, .int .i64 a1_5, .int .i64 a1_6, .string a1_7]) ?_ 3 _ rfl; (with_reducible repeat (first | refine blk_drewN ?_ _ | refine blk_drew ?_ | refine blk_alloc ?_ _)); refine blk_far ?_ NB110_115.out _; (with_reducible repeat (first | refine blk_drewN ?_ _ | refine blk_drew ?_ | refine blk_alloc ?_ _)); refine blk_far ?_ NB110_115.out _; (with_reducible repeat (first | refine blk_drewN ?_ _ | refine blk_drew ?_ | refine blk_alloc ?_ _)); refine blk_far ?_ NB110_115.out _; (with_reducible repeat (first | refine blk_drewN ?_ _ | refine blk_drew ?_ | refine blk_alloc ?_ _)); refine blk_far ?_ NB110_115.out _; (with_reducible repeat (first | refine blk_drewN ?_ _ | refine blk_drew ?_ | refine blk_alloc ?_ _)); refine blk_far ?_ NB110_115.out _; (with_reducible repeat (first | refine blk_drewN ?_ _ | refine blk_drew ?_ | refine blk_alloc ?_ _)); refine blk_far ?_ NB110_115.out _; (with_reducible repeat (first | refine blk_drewN ?_ _ | refine blk_drew ?_ | refine blk_alloc ?_ _)); refine blk_far ?_ NB110_115.out _; (with_reducible repeat (first | refine blk_drewN ?_ _ | refine blk_drew ?_ | refine blk_alloc ?_ _)); exact BK110.out) hb); have n2_ := Aside0.mk (blk_below (g := gb111) (o := .cells #[.int .i64 a2_0, .int .i64 a2_1, .int .i64 a2_2, .int .i64 a2_3, .int .i64 a2_4, .string a2_5, .int .i64 a2_6] 33 (0, 0)) (by (with_reducible repeat (first | refine blk_drewN ?_ _ | refine blk_drew ?_ | refine blk_alloc ?_ _)); refine blk_far ?_ NB111_110.out _; (with_reducible repeat (first | refine blk_drewN ?_ _ | refine blk_drew ?_ | refine blk_alloc ?_ _)); refine blk_far ?_ NB111_115.out _; (with_reducible repeat (first | refine blk_drewN ?_ _ | refine blk_drew ?_ | refine blk_alloc ?_ _)); refine blk_far ?_ NB111_115.out _; (with_reducible repeat (first | refine blk_drewN ?_ _ | refine blk_drew ?_ | refine blk_alloc ?_ _)); refine blk_far ?_ NB111_115.out _; (with_reducible repeat (first | refine blk_drewN ?_ _ | refine blk_drew ?_ | refine blk_alloc ?_ _)); refine blk_far ?_ NB111_115.out _; (with_reducible repeat (first | refine blk_drewN ?_ _ | refine blk_drew ?_ | refine blk_alloc ?_ _)); refine blk_far ?_ NB111_115.out _; (with_reducible repeat (first | refine blk_drewN ?_ _ | refine blk_drew ?_ | refine blk_alloc ?_ _)); refine blk_far ?_ NB111_115.out _; (with_reducible repeat (first | refine blk_drewN ?_ _ | refine blk_drew ?_ | refine blk_alloc ?_ _)); refine blk_far ?_ NB111_115.out _; (with_reducible repeat (first | refine blk_drewN ?_ _ | refine blk_drew ?_ | refine blk_alloc ?_ _)); exact BK111.out) hb); have n3_ := Aside0.mk (blk_below (g := gb112) (o := .cells #[.int .i64 x113000_27, .int .i64 x113001_27, .int .i64 x113002_27, .int .i64 x113003_27, .int .i64 x113004_27, .int .i64 x113005_27, .int .i64 x113006_27, .string x113007_27] 28 (0, 0)) (by (with_reducible repeat (first | refine blk_drewN ?_ _ | refine blk_drew ?_ | refine blk_alloc ?_ _)); refine blk_far ?_ NB112_110.out _; (with_reducible repeat (first | refine blk_drewN ?_ _ | refine blk_drew ?_ | refine blk_alloc ?_ _)); refine blk_far ?_ NB112_115.out _; (with_reducible repeat (first | refine blk_drewN ?_ _ | refine blk_drew ?_ | refine blk_alloc ?_ _)); refine blk_far ?_ NB112_115.out _; (with_reducible repeat (first | refine blk_drewN ?_ _ | refine blk_drew ?_ | refine blk_alloc ?_ _)); refine blk_far ?_ NB112_115.out _; (with_reducible repeat (first | refine blk_drewN ?_ _ | refine blk_drew ?_ | refine blk_alloc ?_ _)); refine blk_far ?_ NB112_115.out _; (with_reducible repeat (first | refine blk_drewN ?_ _ | refine blk_drew ?_ | refine blk_alloc ?_ _)); refine blk_far ?_ NB112_115.out _; (with_reducible repeat (first | refine blk_drewN ?_ _ | refine blk_drew ?_ | refine blk_alloc ?_ _)); refine blk_far ?_ NB112_115.out _; (with_reducible repeat (first | refine blk_drewN ?_ _ | refine blk_drew ?_ | refine blk_alloc ?_ _)); refine blk_far ?_ NB112_115.out _; (with_reducible repeat (first | refine blk_drewN ?_ _ | refine blk_drew ?_ | refine blk_alloc ?_ _)); exact BK112.out) hb); have n4_ := Aside0.mk (blk_below (g := gb115) (o := .cells #[.int .i64 2, .int .i64 a2_1, .int .i64 a2_2, .int .i64 a2_3, .int .i64 a2_4, .string (⟨#[]⟩ : ByteArray), .int .i64 a2_6] 33 (0, 0)) (by (with_reducible repeat (first | refine blk_drewN ?_ _ | refine blk_drew ?_ | refine blk_alloc ?_ _)); refine blk_far ?_ NB115_110.out _; (with_reducible repeat (first | refine blk_drewN ?_ _ | refine blk_drew ?_ | refine blk_alloc ?_ _)); refine blk_put (cs := #[.int .i64 2, .int .i64 a2_1, .int .i64 a2_2, .int .i64 a2_3, .int .i64 a2_4, .string (⟨#[]⟩ : ByteArray), .int .i64 0]) ?_ 6 _ rfl; (with_reducible repeat (first | refine blk_drewN ?_ _ | refine blk_drew ?_ | refine blk_alloc ?_ _)); refine blk_put (cs := #[.int .i64 2, .int .i64 a2_1, .int .i64 a2_2, .int .i64 a2_3, .int .i64 a2_4, .string (⟨#[]⟩ : ByteArray), .int .i64 0]) ?_ 5 _ rfl; (with_reducible repeat (first | refine blk_drewN ?_ _ | refine blk_drew ?_ | refine blk_alloc ?_ _)); refine blk_put (cs := #[.int .i64 2, .int .i64 a2_1, .int .i64 a2_2, .int .i64 a2_3, .int .i64 0, .string (⟨#[]⟩ : ByteArray), .int .i64 0]) ?_ 4 _ rfl; (with_reducible repeat (first | refine blk_drewN ?_ _ | refine blk_drew ?_ | refine blk_alloc ?_ _)); refine blk_put (cs := #[.int .i64 2, .int .i64 a2_1, .int .i64 a2_2, .int .i64 0, .int .i64 0, .string (⟨#[]⟩ : ByteArray), .int .i64 0]) ?_ 3 _ rfl; (with_reducible repeat (first | refine blk_drewN ?_ _ | refine blk_drew ?_ | refine blk_alloc ?_ _)); refine blk_put (cs := #[.int .i64 2, .int .i64 a2_1, .int .i64 0, .int .i64 0, .int .i64 0, .string (⟨#[]⟩ : ByteArray), .int .i64 0]) ?_ 2 _ rfl; (with_reducible repeat (first | refine blk_drewN ?_ _ | refine blk_drew ?_ | refine blk_alloc ?_ _)); refine blk_put (cs := #[.int .i64 2, .int .i64 0, .int .i64 0, .int .i64 0, .int .i64 0, .string (⟨#[]⟩ : ByteArray), .int .i64 0]) ?_ 1 _ rfl; (with_reducible repeat (first | refine blk_drewN ?_ _ | refine blk_drew ?_ | refine blk_alloc ?_ _)); refine blk_put (cs := #[.int .i64 0, .int .i64 0, .int .i64 0, .int .i64 0, .int .i64 0, .string (⟨#[]⟩ : ByteArray), .int .i64 0]) ?_ 0 _ rfl; (with_reducible repeat (first | refine blk_drewN ?_ _ | refine blk_drew ?_ | refine blk_alloc ?_ _)); exact BK115.out) hb); have n5_ := Aside0.mk (below_step (hbw HB.out) hb); clear BK109; clear BK110; clear BK111; clear BK112; clear BK115; clear HB; have BK109 := n0_; have BK110 := n1_; have BK111 := n2_; have BK112 := n3_; have BK115 := n4_; have HB := n5_; clear n0_ n1_ n2_ n3_ n4_ n5_; (try clear hb); (try clear hb2); (try clear hk); (try clear hi); have hcz59_0 : w58.cell? ⟨gb110, 0, none⟩ = some (.int .i64 a1_0) := (blk_cell BK110.out 0).trans rfl; have hcz59_1 : w58.cell? ⟨gb110, 1, none⟩ = some (.int .i64 a2_1) := (blk_cell BK110.out 1).trans rfl; have hcz59_2 : w58.cell? ⟨gb110, 2, none⟩ = some (.int .i64 a1_2) := (blk_cell BK110.out 2).trans rfl; have hcz59_3 : w58.cell? ⟨gb110, 3, none⟩ = some (.int .i64 0) := (blk_cell BK110.out 3).trans rfl; have hcz59_4 : w58.cell? ⟨gb110, 4, none⟩ = some (.int .i64 a1_4) := (blk_cell BK110.out 4).trans rfl; have hcz59_5 : w58.cell? ⟨gb110, 5, none⟩ = some (.int .i64 a1_5) := (blk_cell BK110.out 5).trans rfl; have hcz59_6 : w58.cell? ⟨gb110, 6, none⟩ = some (.int .i64 a1_6) := (blk_cell BK110.out 6).trans rfl; have hcz59_7 : w58.cell? ⟨gb110, 7, none⟩ = some (.string a1_7) := (blk_cell BK110.out 7).trans rfl; have hfz59_0 := blk_frozen BK110.out 0; have hfz59_1 := blk_frozen BK110.out 1; have hfz59_2 := blk_frozen BK110.out 2; have hfz59_3 := blk_frozen BK110.out 3; have hfz59_4 := blk_frozen BK110.out 4; have hfz59_5 := blk_frozen BK110.out 5; have hfz59_6 := blk_frozen BK110.out 6; have hfz59_7 := blk_frozen BK110.out 7; have hcz60_0 : w58.cell? ⟨gb112, 0, none⟩ = some (.int .i64 x113000_27) := (blk_cell BK112.out 0).trans rfl; have hcz60_1 : w58.cell? ⟨gb112, 1, none⟩ = some (.int .i64 x113001_27) := (blk_cell BK112.out 1).trans rfl; have hcz60_2 : w58.cell? ⟨gb112, 2, none⟩ = some (.int .i64 x113002_27) := (blk_cell BK112.out 2).trans rfl; have hcz60_3 : w58.cell? ⟨gb112, 3, none⟩ = some (.int .i64 x113003_27) := (blk_cell BK112.out 3).trans rfl; have hcz60_4 : w58.cell? ⟨gb112, 4, none⟩ = some (.int .i64 x113004_27) := (blk_cell BK112.out 4).trans rfl; have hcz60_5 : w58.cell? ⟨gb112, 5, none⟩ = some (.int .i64 x113005_27) := (blk_cell BK112.out 5).trans rfl; have hcz60_6 : w58.cell? ⟨gb112, 6, none⟩ = some (.int .i64 x113006_27) := (blk_cell BK112.out 6).trans rfl; have hcz60_7 : w58.cell? ⟨gb112, 7, none⟩ = some (.string x113007_27) := (blk_cell BK112.out 7).trans rfl; have hfz60_0 := blk_frozen BK112.out 0; have hfz60_1 := blk_frozen BK112.out 1; have hfz60_2 := blk_frozen BK112.out 2; have hfz60_3 := blk_frozen BK112.out 3; have hfz60_4 := blk_frozen BK112.out 4; have hfz60_5 := blk_frozen BK112.out 5; have hfz60_6 := blk_frozen BK112.out 6; have hfz60_7 := blk_frozen BK112.out 7))
        refine bodyPost_ret (results_ct rfl _ _ gb112 28 #[.int .i64 a1_0, .int .i64 a2_1, .int .i64 a1_2, .int .i64 t119, .int .i64 a1_4, .int .i64 a1_5, .int .i64 t120, .string a1_7] (0, 0) _ rfl (by (with_reducible repeat (first | refine blk_drewN ?_ _ | refine blk_drew ?_ | refine blk_alloc ?_ _)); refine blk_put (cs := #[.int .i64 a1_0, .int .i64 a2_1, .int .i64 a1_2, .int .i64 t119, .int .i64 a1_4, .int .i64 a1_5, .int .i64 t120, .string x113007_27]) ?_ 7 _ rfl; (with_reducible repeat (first | refine blk_drewN ?_ _ | refine blk_drew ?_ | refine blk_alloc ?_ _)); refine blk_put (cs := #[.int .i64 a1_0, .int .i64 a2_1, .int .i64 a1_2, .int .i64 t119, .int .i64 a1_4, .int .i64 a1_5, .int .i64 x113006_27, .string x113007_27]) ?_ 6 _ rfl; (with_reducible repeat (first | refine blk_drewN ?_ _ | refine blk_drew ?_ | refine blk_alloc ?_ _)); refine blk_put (cs := #[.int .i64 a1_0, .int .i64 a2_1, .int .i64 a1_2, .int .i64 t119, .int .i64 a1_4, .int .i64 x113005_27, .int .i64 x113006_27, .string x113007_27]) ?_ 5 _ rfl; (with_reducible repeat (first | refine blk_drewN ?_ _ | refine blk_drew ?_ | refine blk_alloc ?_ _)); refine blk_put (cs := #[.int .i64 a1_0, .int .i64 a2_1, .int .i64 a1_2, .int .i64 t119, .int .i64 x113004_27, .int .i64 x113005_27, .int .i64 x113006_27, .string x113007_27]) ?_ 4 _ rfl; (with_reducible repeat (first | refine blk_drewN ?_ _ | refine blk_drew ?_ | refine blk_alloc ?_ _)); refine blk_put (cs := #[.int .i64 a1_0, .int .i64 a2_1, .int .i64 a1_2, .int .i64 x113003_27, .int .i64 x113004_27, .int .i64 x113005_27, .int .i64 x113006_27, .string x113007_27]) ?_ 3 _ rfl; (with_reducible repeat (first | refine blk_drewN ?_ _ | refine blk_drew ?_ | refine blk_alloc ?_ _)); refine blk_put (cs := #[.int .i64 a1_0, .int .i64 a2_1, .int .i64 x113002_27, .int .i64 x113003_27, .int .i64 x113004_27, .int .i64 x113005_27, .int .i64 x113006_27, .string x113007_27]) ?_ 2 _ rfl; (with_reducible repeat (first | refine blk_drewN ?_ _ | refine blk_drew ?_ | refine blk_alloc ?_ _)); refine blk_put (cs := #[.int .i64 a1_0, .int .i64 x113001_27, .int .i64 x113002_27, .int .i64 x113003_27, .int .i64 x113004_27, .int .i64 x113005_27, .int .i64 x113006_27, .string x113007_27]) ?_ 1 _ rfl; (with_reducible repeat (first | refine blk_drewN ?_ _ | refine blk_drew ?_ | refine blk_alloc ?_ _)); refine blk_put (cs := #[.int .i64 x113000_27, .int .i64 x113001_27, .int .i64 x113002_27, .int .i64 x113003_27, .int .i64 x113004_27, .int .i64 x113005_27, .int .i64 x113006_27, .string x113007_27]) ?_ 0 _ rfl; (with_reducible repeat (first | refine blk_drewN ?_ _ | refine blk_drew ?_ | refine blk_alloc ?_ _)); refine blk_far ?_ NB112_110.out _; (with_reducible repeat (first | refine blk_drewN ?_ _ | refine blk_drew ?_ | refine blk_alloc ?_ _)); refine blk_far ?_ NB112_110.out _; (with_reducible repeat (first | refine blk_drewN ?_ _ | refine blk_drew ?_ | refine blk_alloc ?_ _)); exact BK112.out) Try.underlying28 rfl (by kernel_rfl)) rfl ?_
        exact ⟨_, by first | rfl | (simp [errW_none, errW_some] <;> rfl) | (simp [*, errW_none, errW_some] <;> rfl), by first | exact Kd.R_nil _ _ _ _ _ | exact Kd.N_nil _ _ _ _ _ | exact Kd.V_nil _ _ _ _ _ | exact Kd.Q_nil _ _ _ _ _ | exact Kd.S_nil _ _ _ _ _, by repeat (first | (with_reducible first | exact HB.out | apply below_alloc | apply pw_below_drewN | apply below_drew1 | refine below_set ?_ GE109.out | refine below_set ?_ GE110.out | refine below_set ?_ GE111.out | refine below_set ?_ GE112.out | refine below_set ?_ GE115.out) | exact HB.out)⟩
       ·rw [if_neg c39] at H
        have c39b0 : (a2_3 == (wrap64 (1 - a1_6))) = false := beq_eq_false_iff_ne.mpr c39
        have c39b1 : (a2_3 != (wrap64 (1 - a1_6))) = true := bne_iff_ne.mpr c39
        obtain ⟨y121, hy121⟩ : ∃ y_ : List (S33), y_ = (([(⟨2, a2_1, a2_2, a2_3, a2_4, (⟨#[]⟩ : ByteArray), 4⟩ : S33)] : List (S33))) := ⟨_, rfl⟩
        replace H : (some (a1_0, a2_1, a1_2, 0, a1_4, a1_5, a1_6, a1_7, y121)) = some (r1, r2, r3, r4, r5, r6, r7, r8, r9) := by first | (rw [hy121]; with_reducible exact H) | (have H2_ := (Option.bind_some _ _).symm.trans H; rw [hy121]; with_reducible exact H2_) | (have H2_ := (Option.bind_some _ _).symm.trans H; with_reducible exact H2_) | with_reducible exact H | (rw [hy121]; exact H) | exact H
        have Ny121 := Aside0.mk hy121
        clear hy121
        simp only [Option.some.injEq, Prod.mk.injEq] at H
        obtain ⟨rfl, rfl, rfl, rfl, rfl, rfl, rfl, rfl, rfl⟩ := H
        have hnb61 := NB111_109.out
        have hnc61 := NB109_111.out
        have hnb62 := NB111_110.out
        have hnc62 := NB110_111.out
        have hnb63 := NB111_112.out
        have hnc63 := NB112_111.out
        have hcz64_0 : wc.cell? ⟨gb111, 0, none⟩ = some (.int .i64 a2_0) := (blk_cell BK111.out 0).trans rfl
        have hcz64_1 : wc.cell? ⟨gb111, 1, none⟩ = some (.int .i64 a2_1) := (blk_cell BK111.out 1).trans rfl
        have hcz64_2 : wc.cell? ⟨gb111, 2, none⟩ = some (.int .i64 a2_2) := (blk_cell BK111.out 2).trans rfl
        have hcz64_3 : wc.cell? ⟨gb111, 3, none⟩ = some (.int .i64 a2_3) := (blk_cell BK111.out 3).trans rfl
        have hcz64_4 : wc.cell? ⟨gb111, 4, none⟩ = some (.int .i64 a2_4) := (blk_cell BK111.out 4).trans rfl
        have hcz64_5 : wc.cell? ⟨gb111, 5, none⟩ = some (.string a2_5) := (blk_cell BK111.out 5).trans rfl
        have hcz64_6 : wc.cell? ⟨gb111, 6, none⟩ = some (.int .i64 a2_6) := (blk_cell BK111.out 6).trans rfl
        have hfz64_0 := blk_frozen BK111.out 0
        have hfz64_1 := blk_frozen BK111.out 1
        have hfz64_2 := blk_frozen BK111.out 2
        have hfz64_3 := blk_frozen BK111.out 3
        have hfz64_4 := blk_frozen BK111.out 4
        have hfz64_5 := blk_frozen BK111.out 5
        have hfz64_6 := blk_frozen BK111.out 6
        have hnb65 := NB110_109.out
        have hnc65 := NB109_110.out
        have hnb66 := NB110_112.out
        have hnc66 := NB112_110.out
        have hcz67_0 : wc.cell? ⟨gb110, 0, none⟩ = some (.int .i64 a1_0) := (blk_cell BK110.out 0).trans rfl
        have hcz67_1 : wc.cell? ⟨gb110, 1, none⟩ = some (.int .i64 a1_1) := (blk_cell BK110.out 1).trans rfl
        have hcz67_2 : wc.cell? ⟨gb110, 2, none⟩ = some (.int .i64 a1_2) := (blk_cell BK110.out 2).trans rfl
        have hcz67_3 : wc.cell? ⟨gb110, 3, none⟩ = some (.int .i64 a1_3) := (blk_cell BK110.out 3).trans rfl
        have hcz67_4 : wc.cell? ⟨gb110, 4, none⟩ = some (.int .i64 a1_4) := (blk_cell BK110.out 4).trans rfl
        have hcz67_5 : wc.cell? ⟨gb110, 5, none⟩ = some (.int .i64 a1_5) := (blk_cell BK110.out 5).trans rfl
        have hcz67_6 : wc.cell? ⟨gb110, 6, none⟩ = some (.int .i64 a1_6) := (blk_cell BK110.out 6).trans rfl
        have hcz67_7 : wc.cell? ⟨gb110, 7, none⟩ = some (.string a1_7) := (blk_cell BK110.out 7).trans rfl
        have hfz67_0 := blk_frozen BK110.out 0
        have hfz67_1 := blk_frozen BK110.out 1
        have hfz67_2 := blk_frozen BK110.out 2
        have hfz67_3 := blk_frozen BK110.out 3
        have hfz67_4 := blk_frozen BK110.out 4
        have hfz67_5 := blk_frozen BK110.out 5
        have hfz67_6 := blk_frozen BK110.out 6
        have hfz67_7 := blk_frozen BK110.out 7
        try go_wp2_with (first | ((with_reducible refine gate_dst (N := 8) rfl ?_); refine box_event ?hg (N := 8) ?hd (cs := #[.int .i64 0, .int .i64 0, .int .i64 0, .int .i64 0, .int .i64 0, .string (⟨#[]⟩ : ByteArray), .int .i64 0]) (t := 33) ?hr ?_; (case hd => rfl); (case hg => rfl); (case hr => first | (go_simp; done) | (go_simp; rfl)); intro gb115 hg w68 hbox hb; have n0_ := Aside0.mk (blk_below (g := gb109) (o := .cells #[.int .i64 a0_0, .bool a0_1] 23 (0, 0)) (by (with_reducible repeat (first | refine blk_drewN ?_ _ | refine blk_drew ?_ | refine blk_alloc ?_ _)); refine blk_far ?_ NB109_110.out _; (with_reducible repeat (first | refine blk_drewN ?_ _ | refine blk_drew ?_ | refine blk_alloc ?_ _)); exact BK109.out) hb); have n1_ := Aside0.mk (blk_below (g := gb110) (o := .cells #[.int .i64 a1_0, .int .i64 a2_1, .int .i64 a1_2, .int .i64 a1_3, .int .i64 a1_4, .int .i64 a1_5, .int .i64 a1_6, .string a1_7] 28 (0, 0)) (by (with_reducible repeat (first | refine blk_drewN ?_ _ | refine blk_drew ?_ | refine blk_alloc ?_ _)); refine blk_put (cs := #[.int .i64 a1_0, .int .i64 a1_1, .int .i64 a1_2, .int .i64 a1_3, .int .i64 a1_4, .int .i64 a1_5, .int .i64 a1_6, .string a1_7]) ?_ 1 _ rfl; (with_reducible repeat (first | refine blk_drewN ?_ _ | refine blk_drew ?_ | refine blk_alloc ?_ _)); exact BK110.out) hb); have n2_ := Aside0.mk (blk_below (g := gb111) (o := .cells #[.int .i64 a2_0, .int .i64 a2_1, .int .i64 a2_2, .int .i64 a2_3, .int .i64 a2_4, .string a2_5, .int .i64 a2_6] 33 (0, 0)) (by (with_reducible repeat (first | refine blk_drewN ?_ _ | refine blk_drew ?_ | refine blk_alloc ?_ _)); refine blk_far ?_ NB111_110.out _; (with_reducible repeat (first | refine blk_drewN ?_ _ | refine blk_drew ?_ | refine blk_alloc ?_ _)); exact BK111.out) hb); have n3_ := Aside0.mk (blk_below (g := gb112) (o := .cells #[.int .i64 x113000_27, .int .i64 x113001_27, .int .i64 x113002_27, .int .i64 x113003_27, .int .i64 x113004_27, .int .i64 x113005_27, .int .i64 x113006_27, .string x113007_27] 28 (0, 0)) (by (with_reducible repeat (first | refine blk_drewN ?_ _ | refine blk_drew ?_ | refine blk_alloc ?_ _)); refine blk_far ?_ NB112_110.out _; (with_reducible repeat (first | refine blk_drewN ?_ _ | refine blk_drew ?_ | refine blk_alloc ?_ _)); exact BK112.out) hb); have n4_ := Aside0.mk (below_step (hbw HB.out) hb); have n5_ := Aside0.mk (hbox); have n6_ := Aside0.mk ((by rw [hg]; exact (below_size (hbw HB.out)) : w.heap.size ≤ gb115)); have n7_ := Aside0.mk ((by rw [hg]; exact (below_size (hbw HB.out)) : w.heap.size ≤ gb115)); have n8_ := Aside0.mk ((by rw [hg]; exact Nat.ne_of_lt (blk_lt (g := gb109) (o := .cells #[.int .i64 a0_0, .bool a0_1] 23 (0, 0)) (by (with_reducible repeat (first | refine blk_drewN ?_ _ | refine blk_drew ?_ | refine blk_alloc ?_ _)); refine blk_far ?_ NB109_110.out _; (with_reducible repeat (first | refine blk_drewN ?_ _ | refine blk_drew ?_ | refine blk_alloc ?_ _)); exact BK109.out)) : gb109 ≠ gb115)); have n9_ := Aside0.mk ((by rw [hg]; exact Nat.ne_of_gt (blk_lt (g := gb109) (o := .cells #[.int .i64 a0_0, .bool a0_1] 23 (0, 0)) (by (with_reducible repeat (first | refine blk_drewN ?_ _ | refine blk_drew ?_ | refine blk_alloc ?_ _)); refine blk_far ?_ NB109_110.out _; (with_reducible repeat (first | refine blk_drewN ?_ _ | refine blk_drew ?_ | refine blk_alloc ?_ _)); exact BK109.out)) : gb115 ≠ gb109)); have n10_ := Aside0.mk ((by rw [hg]; exact Nat.ne_of_lt (blk_lt (g := gb110) (o := .cells #[.int .i64 a1_0, .int .i64 a2_1, .int .i64 a1_2, .int .i64 a1_3, .int .i64 a1_4, .int .i64 a1_5, .int .i64 a1_6, .string a1_7] 28 (0, 0)) (by (with_reducible repeat (first | refine blk_drewN ?_ _ | refine blk_drew ?_ | refine blk_alloc ?_ _)); refine blk_put (cs := #[.int .i64 a1_0, .int .i64 a1_1, .int .i64 a1_2, .int .i64 a1_3, .int .i64 a1_4, .int .i64 a1_5, .int .i64 a1_6, .string a1_7]) ?_ 1 _ rfl; (with_reducible repeat (first | refine blk_drewN ?_ _ | refine blk_drew ?_ | refine blk_alloc ?_ _)); exact BK110.out)) : gb110 ≠ gb115)); have n11_ := Aside0.mk ((by rw [hg]; exact Nat.ne_of_gt (blk_lt (g := gb110) (o := .cells #[.int .i64 a1_0, .int .i64 a2_1, .int .i64 a1_2, .int .i64 a1_3, .int .i64 a1_4, .int .i64 a1_5, .int .i64 a1_6, .string a1_7] 28 (0, 0)) (by (with_reducible repeat (first | refine blk_drewN ?_ _ | refine blk_drew ?_ | refine blk_alloc ?_ _)); refine blk_put (cs := #[.int .i64 a1_0, .int .i64 a1_1, .int .i64 a1_2, .int .i64 a1_3, .int .i64 a1_4, .int .i64 a1_5, .int .i64 a1_6, .string a1_7]) ?_ 1 _ rfl; (with_reducible repeat (first | refine blk_drewN ?_ _ | refine blk_drew ?_ | refine blk_alloc ?_ _)); exact BK110.out)) : gb115 ≠ gb110)); have n12_ := Aside0.mk ((by rw [hg]; exact Nat.ne_of_lt (blk_lt (g := gb111) (o := .cells #[.int .i64 a2_0, .int .i64 a2_1, .int .i64 a2_2, .int .i64 a2_3, .int .i64 a2_4, .string a2_5, .int .i64 a2_6] 33 (0, 0)) (by (with_reducible repeat (first | refine blk_drewN ?_ _ | refine blk_drew ?_ | refine blk_alloc ?_ _)); refine blk_far ?_ NB111_110.out _; (with_reducible repeat (first | refine blk_drewN ?_ _ | refine blk_drew ?_ | refine blk_alloc ?_ _)); exact BK111.out)) : gb111 ≠ gb115)); have n13_ := Aside0.mk ((by rw [hg]; exact Nat.ne_of_gt (blk_lt (g := gb111) (o := .cells #[.int .i64 a2_0, .int .i64 a2_1, .int .i64 a2_2, .int .i64 a2_3, .int .i64 a2_4, .string a2_5, .int .i64 a2_6] 33 (0, 0)) (by (with_reducible repeat (first | refine blk_drewN ?_ _ | refine blk_drew ?_ | refine blk_alloc ?_ _)); refine blk_far ?_ NB111_110.out _; (with_reducible repeat (first | refine blk_drewN ?_ _ | refine blk_drew ?_ | refine blk_alloc ?_ _)); exact BK111.out)) : gb115 ≠ gb111)); have n14_ := Aside0.mk ((by rw [hg]; exact Nat.ne_of_lt (blk_lt (g := gb112) (o := .cells #[.int .i64 x113000_27, .int .i64 x113001_27, .int .i64 x113002_27, .int .i64 x113003_27, .int .i64 x113004_27, .int .i64 x113005_27, .int .i64 x113006_27, .string x113007_27] 28 (0, 0)) (by (with_reducible repeat (first | refine blk_drewN ?_ _ | refine blk_drew ?_ | refine blk_alloc ?_ _)); refine blk_far ?_ NB112_110.out _; (with_reducible repeat (first | refine blk_drewN ?_ _ | refine blk_drew ?_ | refine blk_alloc ?_ _)); exact BK112.out)) : gb112 ≠ gb115)); have n15_ := Aside0.mk ((by rw [hg]; exact Nat.ne_of_gt (blk_lt (g := gb112) (o := .cells #[.int .i64 x113000_27, .int .i64 x113001_27, .int .i64 x113002_27, .int .i64 x113003_27, .int .i64 x113004_27, .int .i64 x113005_27, .int .i64 x113006_27, .string x113007_27] 28 (0, 0)) (by (with_reducible repeat (first | refine blk_drewN ?_ _ | refine blk_drew ?_ | refine blk_alloc ?_ _)); refine blk_far ?_ NB112_110.out _; (with_reducible repeat (first | refine blk_drewN ?_ _ | refine blk_drew ?_ | refine blk_alloc ?_ _)); exact BK112.out)) : gb115 ≠ gb112)); clear BK109; clear BK110; clear BK111; clear BK112; clear HB; have BK109 := n0_; have BK110 := n1_; have BK111 := n2_; have BK112 := n3_; have HB := n4_; have BK115 := n5_; have GW115 := n6_; have GE115 := n7_; have NB109_115 := n8_; have NB115_109 := n9_; have NB110_115 := n10_; have NB115_110 := n11_; have NB111_115 := n12_; have NB115_111 := n13_; have NB112_115 := n14_; have NB115_112 := n15_; clear n0_ n1_ n2_ n3_ n4_ n5_ n6_ n7_ n8_ n9_ n10_ n11_ n12_ n13_ n14_ n15_; clear hb hbox hg; have hnb69 := NB115_109.out; have hnc69 := NB109_115.out; have hnb70 := NB115_110.out; have hnc70 := NB110_115.out; have hnb71 := NB115_111.out; have hnc71 := NB111_115.out; have hnb72 := NB115_112.out; have hnc72 := NB112_115.out; have hcz73_0 : w68.cell? ⟨gb115, 0, none⟩ = some (.int .i64 0) := (blk_cell BK115.out 0).trans rfl; have hcz73_1 : w68.cell? ⟨gb115, 1, none⟩ = some (.int .i64 0) := (blk_cell BK115.out 1).trans rfl; have hcz73_2 : w68.cell? ⟨gb115, 2, none⟩ = some (.int .i64 0) := (blk_cell BK115.out 2).trans rfl; have hcz73_3 : w68.cell? ⟨gb115, 3, none⟩ = some (.int .i64 0) := (blk_cell BK115.out 3).trans rfl; have hcz73_4 : w68.cell? ⟨gb115, 4, none⟩ = some (.int .i64 0) := (blk_cell BK115.out 4).trans rfl; have hcz73_5 : w68.cell? ⟨gb115, 5, none⟩ = some (.string (⟨#[]⟩ : ByteArray)) := (blk_cell BK115.out 5).trans rfl; have hcz73_6 : w68.cell? ⟨gb115, 6, none⟩ = some (.int .i64 0) := (blk_cell BK115.out 6).trans rfl; have hfz73_0 := blk_frozen BK115.out 0; have hfz73_1 := blk_frozen BK115.out 1; have hfz73_2 := blk_frozen BK115.out 2; have hfz73_3 := blk_frozen BK115.out 3; have hfz73_4 := blk_frozen BK115.out 4; have hfz73_5 := blk_frozen BK115.out 5; have hfz73_6 := blk_frozen BK115.out 6; have hcz74_0 : w68.cell? ⟨gb111, 0, none⟩ = some (.int .i64 a2_0) := (blk_cell BK111.out 0).trans rfl; have hcz74_1 : w68.cell? ⟨gb111, 1, none⟩ = some (.int .i64 a2_1) := (blk_cell BK111.out 1).trans rfl; have hcz74_2 : w68.cell? ⟨gb111, 2, none⟩ = some (.int .i64 a2_2) := (blk_cell BK111.out 2).trans rfl; have hcz74_3 : w68.cell? ⟨gb111, 3, none⟩ = some (.int .i64 a2_3) := (blk_cell BK111.out 3).trans rfl; have hcz74_4 : w68.cell? ⟨gb111, 4, none⟩ = some (.int .i64 a2_4) := (blk_cell BK111.out 4).trans rfl; have hcz74_5 : w68.cell? ⟨gb111, 5, none⟩ = some (.string a2_5) := (blk_cell BK111.out 5).trans rfl; have hcz74_6 : w68.cell? ⟨gb111, 6, none⟩ = some (.int .i64 a2_6) := (blk_cell BK111.out 6).trans rfl; have hfz74_0 := blk_frozen BK111.out 0; have hfz74_1 := blk_frozen BK111.out 1; have hfz74_2 := blk_frozen BK111.out 2; have hfz74_3 := blk_frozen BK111.out 3; have hfz74_4 := blk_frozen BK111.out 4; have hfz74_5 := blk_frozen BK111.out 5; have hfz74_6 := blk_frozen BK111.out 6; have hcz75_0 : w68.cell? ⟨gb110, 0, none⟩ = some (.int .i64 a1_0) := (blk_cell BK110.out 0).trans rfl; have hcz75_1 : w68.cell? ⟨gb110, 1, none⟩ = some (.int .i64 a2_1) := (blk_cell BK110.out 1).trans rfl; have hcz75_2 : w68.cell? ⟨gb110, 2, none⟩ = some (.int .i64 a1_2) := (blk_cell BK110.out 2).trans rfl; have hcz75_3 : w68.cell? ⟨gb110, 3, none⟩ = some (.int .i64 a1_3) := (blk_cell BK110.out 3).trans rfl; have hcz75_4 : w68.cell? ⟨gb110, 4, none⟩ = some (.int .i64 a1_4) := (blk_cell BK110.out 4).trans rfl; have hcz75_5 : w68.cell? ⟨gb110, 5, none⟩ = some (.int .i64 a1_5) := (blk_cell BK110.out 5).trans rfl; have hcz75_6 : w68.cell? ⟨gb110, 6, none⟩ = some (.int .i64 a1_6) := (blk_cell BK110.out 6).trans rfl; have hcz75_7 : w68.cell? ⟨gb110, 7, none⟩ = some (.string a1_7) := (blk_cell BK110.out 7).trans rfl; have hfz75_0 := blk_frozen BK110.out 0; have hfz75_1 := blk_frozen BK110.out 1; have hfz75_2 := blk_frozen BK110.out 2; have hfz75_3 := blk_frozen BK110.out 3; have hfz75_4 := blk_frozen BK110.out 4; have hfz75_5 := blk_frozen BK110.out 5; have hfz75_6 := blk_frozen BK110.out 6; have hfz75_7 := blk_frozen BK110.out 7; have hnb76 := NB109_112.out; have hnc76 := NB112_109.out; have hcz77_0 : w68.cell? ⟨gb109, 0, none⟩ = some (.int .i64 a0_0) := (blk_cell BK109.out 0).trans rfl; have hcz77_1 : w68.cell? ⟨gb109, 1, none⟩ = some (.bool a0_1) := (blk_cell BK109.out 1).trans rfl; have hfz77_0 := blk_frozen BK109.out 0; have hfz77_1 := blk_frozen BK109.out 1))
        have n0_ : Aside0 ((((((((((w68.setCell ⟨gb115, 0, none⟩ (.int .i64 2)).setCell ⟨gb115, 1, none⟩ (.int .i64 a2_1)).setCell ⟨gb115, 2, none⟩ (.int .i64 a2_2)).setCell ⟨gb115, 3, none⟩ (.int .i64 a2_3)).setCell ⟨gb115, 4, none⟩ (.int .i64 a2_4)).setCell ⟨gb115, 5, none⟩ (.string (⟨#[]⟩ : ByteArray))).setCell ⟨gb115, 6, none⟩ (.int .i64 a2_6)).setCell ⟨gb110, 3, none⟩ (.int .i64 0)).setCell ⟨gb115, 6, none⟩ (.int .i64 4)).heap[gb109]? = some (.cells #[.int .i64 a0_0, .bool a0_1] 23 (0, 0))) := ⟨by (with_reducible repeat (first | refine blk_drewN ?_ _ | refine blk_drew ?_ | refine blk_alloc ?_ _)); refine blk_far ?_ NB109_115.out _; (with_reducible repeat (first | refine blk_drewN ?_ _ | refine blk_drew ?_ | refine blk_alloc ?_ _)); refine blk_far ?_ NB109_110.out _; (with_reducible repeat (first | refine blk_drewN ?_ _ | refine blk_drew ?_ | refine blk_alloc ?_ _)); refine blk_far ?_ NB109_115.out _; (with_reducible repeat (first | refine blk_drewN ?_ _ | refine blk_drew ?_ | refine blk_alloc ?_ _)); refine blk_far ?_ NB109_115.out _; (with_reducible repeat (first | refine blk_drewN ?_ _ | refine blk_drew ?_ | refine blk_alloc ?_ _)); refine blk_far ?_ NB109_115.out _; (with_reducible repeat (first | refine blk_drewN ?_ _ | refine blk_drew ?_ | refine blk_alloc ?_ _)); refine blk_far ?_ NB109_115.out _; (with_reducible repeat (first | refine blk_drewN ?_ _ | refine blk_drew ?_ | refine blk_alloc ?_ _)); refine blk_far ?_ NB109_115.out _; (with_reducible repeat (first | refine blk_drewN ?_ _ | refine blk_drew ?_ | refine blk_alloc ?_ _)); refine blk_far ?_ NB109_115.out _; (with_reducible repeat (first | refine blk_drewN ?_ _ | refine blk_drew ?_ | refine blk_alloc ?_ _)); refine blk_far ?_ NB109_115.out _; (with_reducible repeat (first | refine blk_drewN ?_ _ | refine blk_drew ?_ | refine blk_alloc ?_ _)); exact BK109.out⟩
        have n1_ : Aside0 ((((((((((w68.setCell ⟨gb115, 0, none⟩ (.int .i64 2)).setCell ⟨gb115, 1, none⟩ (.int .i64 a2_1)).setCell ⟨gb115, 2, none⟩ (.int .i64 a2_2)).setCell ⟨gb115, 3, none⟩ (.int .i64 a2_3)).setCell ⟨gb115, 4, none⟩ (.int .i64 a2_4)).setCell ⟨gb115, 5, none⟩ (.string (⟨#[]⟩ : ByteArray))).setCell ⟨gb115, 6, none⟩ (.int .i64 a2_6)).setCell ⟨gb110, 3, none⟩ (.int .i64 0)).setCell ⟨gb115, 6, none⟩ (.int .i64 4)).heap[gb110]? = some (.cells #[.int .i64 a1_0, .int .i64 a2_1, .int .i64 a1_2, .int .i64 0, .int .i64 a1_4, .int .i64 a1_5, .int .i64 a1_6, .string a1_7] 28 (0, 0))) := ⟨by (with_reducible repeat (first | refine blk_drewN ?_ _ | refine blk_drew ?_ | refine blk_alloc ?_ _)); refine blk_far ?_ NB110_115.out _; (with_reducible repeat (first | refine blk_drewN ?_ _ | refine blk_drew ?_ | refine blk_alloc ?_ _)); refine blk_put (cs := #[.int .i64 a1_0, .int .i64 a2_1, .int .i64 a1_2, .int .i64 a1_3, .int .i64 a1_4, .int .i64 a1_5, .int .i64 a1_6, .string a1_7]) ?_ 3 _ rfl; (with_reducible repeat (first | refine blk_drewN ?_ _ | refine blk_drew ?_ | refine blk_alloc ?_ _)); refine blk_far ?_ NB110_115.out _; (with_reducible repeat (first | refine blk_drewN ?_ _ | refine blk_drew ?_ | refine blk_alloc ?_ _)); refine blk_far ?_ NB110_115.out _; (with_reducible repeat (first | refine blk_drewN ?_ _ | refine blk_drew ?_ | refine blk_alloc ?_ _)); refine blk_far ?_ NB110_115.out _; (with_reducible repeat (first | refine blk_drewN ?_ _ | refine blk_drew ?_ | refine blk_alloc ?_ _)); refine blk_far ?_ NB110_115.out _; (with_reducible repeat (first | refine blk_drewN ?_ _ | refine blk_drew ?_ | refine blk_alloc ?_ _)); refine blk_far ?_ NB110_115.out _; (with_reducible repeat (first | refine blk_drewN ?_ _ | refine blk_drew ?_ | refine blk_alloc ?_ _)); refine blk_far ?_ NB110_115.out _; (with_reducible repeat (first | refine blk_drewN ?_ _ | refine blk_drew ?_ | refine blk_alloc ?_ _)); refine blk_far ?_ NB110_115.out _; (with_reducible repeat (first | refine blk_drewN ?_ _ | refine blk_drew ?_ | refine blk_alloc ?_ _)); exact BK110.out⟩
        have n2_ : Aside0 ((((((((((w68.setCell ⟨gb115, 0, none⟩ (.int .i64 2)).setCell ⟨gb115, 1, none⟩ (.int .i64 a2_1)).setCell ⟨gb115, 2, none⟩ (.int .i64 a2_2)).setCell ⟨gb115, 3, none⟩ (.int .i64 a2_3)).setCell ⟨gb115, 4, none⟩ (.int .i64 a2_4)).setCell ⟨gb115, 5, none⟩ (.string (⟨#[]⟩ : ByteArray))).setCell ⟨gb115, 6, none⟩ (.int .i64 a2_6)).setCell ⟨gb110, 3, none⟩ (.int .i64 0)).setCell ⟨gb115, 6, none⟩ (.int .i64 4)).heap[gb111]? = some (.cells #[.int .i64 a2_0, .int .i64 a2_1, .int .i64 a2_2, .int .i64 a2_3, .int .i64 a2_4, .string a2_5, .int .i64 a2_6] 33 (0, 0))) := ⟨by (with_reducible repeat (first | refine blk_drewN ?_ _ | refine blk_drew ?_ | refine blk_alloc ?_ _)); refine blk_far ?_ NB111_115.out _; (with_reducible repeat (first | refine blk_drewN ?_ _ | refine blk_drew ?_ | refine blk_alloc ?_ _)); refine blk_far ?_ NB111_110.out _; (with_reducible repeat (first | refine blk_drewN ?_ _ | refine blk_drew ?_ | refine blk_alloc ?_ _)); refine blk_far ?_ NB111_115.out _; (with_reducible repeat (first | refine blk_drewN ?_ _ | refine blk_drew ?_ | refine blk_alloc ?_ _)); refine blk_far ?_ NB111_115.out _; (with_reducible repeat (first | refine blk_drewN ?_ _ | refine blk_drew ?_ | refine blk_alloc ?_ _)); refine blk_far ?_ NB111_115.out _; (with_reducible repeat (first | refine blk_drewN ?_ _ | refine blk_drew ?_ | refine blk_alloc ?_ _)); refine blk_far ?_ NB111_115.out _; (with_reducible repeat (first | refine blk_drewN ?_ _ | refine blk_drew ?_ | refine blk_alloc ?_ _)); refine blk_far ?_ NB111_115.out _; (with_reducible repeat (first | refine blk_drewN ?_ _ | refine blk_drew ?_ | refine blk_alloc ?_ _)); refine blk_far ?_ NB111_115.out _; (with_reducible repeat (first | refine blk_drewN ?_ _ | refine blk_drew ?_ | refine blk_alloc ?_ _)); refine blk_far ?_ NB111_115.out _; (with_reducible repeat (first | refine blk_drewN ?_ _ | refine blk_drew ?_ | refine blk_alloc ?_ _)); exact BK111.out⟩
        have n3_ : Aside0 ((((((((((w68.setCell ⟨gb115, 0, none⟩ (.int .i64 2)).setCell ⟨gb115, 1, none⟩ (.int .i64 a2_1)).setCell ⟨gb115, 2, none⟩ (.int .i64 a2_2)).setCell ⟨gb115, 3, none⟩ (.int .i64 a2_3)).setCell ⟨gb115, 4, none⟩ (.int .i64 a2_4)).setCell ⟨gb115, 5, none⟩ (.string (⟨#[]⟩ : ByteArray))).setCell ⟨gb115, 6, none⟩ (.int .i64 a2_6)).setCell ⟨gb110, 3, none⟩ (.int .i64 0)).setCell ⟨gb115, 6, none⟩ (.int .i64 4)).heap[gb112]? = some (.cells #[.int .i64 x113000_27, .int .i64 x113001_27, .int .i64 x113002_27, .int .i64 x113003_27, .int .i64 x113004_27, .int .i64 x113005_27, .int .i64 x113006_27, .string x113007_27] 28 (0, 0))) := ⟨by (with_reducible repeat (first | refine blk_drewN ?_ _ | refine blk_drew ?_ | refine blk_alloc ?_ _)); refine blk_far ?_ NB112_115.out _; (with_reducible repeat (first | refine blk_drewN ?_ _ | refine blk_drew ?_ | refine blk_alloc ?_ _)); refine blk_far ?_ NB112_110.out _; (with_reducible repeat (first | refine blk_drewN ?_ _ | refine blk_drew ?_ | refine blk_alloc ?_ _)); refine blk_far ?_ NB112_115.out _; (with_reducible repeat (first | refine blk_drewN ?_ _ | refine blk_drew ?_ | refine blk_alloc ?_ _)); refine blk_far ?_ NB112_115.out _; (with_reducible repeat (first | refine blk_drewN ?_ _ | refine blk_drew ?_ | refine blk_alloc ?_ _)); refine blk_far ?_ NB112_115.out _; (with_reducible repeat (first | refine blk_drewN ?_ _ | refine blk_drew ?_ | refine blk_alloc ?_ _)); refine blk_far ?_ NB112_115.out _; (with_reducible repeat (first | refine blk_drewN ?_ _ | refine blk_drew ?_ | refine blk_alloc ?_ _)); refine blk_far ?_ NB112_115.out _; (with_reducible repeat (first | refine blk_drewN ?_ _ | refine blk_drew ?_ | refine blk_alloc ?_ _)); refine blk_far ?_ NB112_115.out _; (with_reducible repeat (first | refine blk_drewN ?_ _ | refine blk_drew ?_ | refine blk_alloc ?_ _)); refine blk_far ?_ NB112_115.out _; (with_reducible repeat (first | refine blk_drewN ?_ _ | refine blk_drew ?_ | refine blk_alloc ?_ _)); exact BK112.out⟩
        have n4_ : Aside0 ((((((((((w68.setCell ⟨gb115, 0, none⟩ (.int .i64 2)).setCell ⟨gb115, 1, none⟩ (.int .i64 a2_1)).setCell ⟨gb115, 2, none⟩ (.int .i64 a2_2)).setCell ⟨gb115, 3, none⟩ (.int .i64 a2_3)).setCell ⟨gb115, 4, none⟩ (.int .i64 a2_4)).setCell ⟨gb115, 5, none⟩ (.string (⟨#[]⟩ : ByteArray))).setCell ⟨gb115, 6, none⟩ (.int .i64 a2_6)).setCell ⟨gb110, 3, none⟩ (.int .i64 0)).setCell ⟨gb115, 6, none⟩ (.int .i64 4)).heap[gb115]? = some (.cells #[.int .i64 2, .int .i64 a2_1, .int .i64 a2_2, .int .i64 a2_3, .int .i64 a2_4, .string (⟨#[]⟩ : ByteArray), .int .i64 4] 33 (0, 0))) := ⟨by (with_reducible repeat (first | refine blk_drewN ?_ _ | refine blk_drew ?_ | refine blk_alloc ?_ _)); refine blk_put (cs := #[.int .i64 2, .int .i64 a2_1, .int .i64 a2_2, .int .i64 a2_3, .int .i64 a2_4, .string (⟨#[]⟩ : ByteArray), .int .i64 a2_6]) ?_ 6 _ rfl; (with_reducible repeat (first | refine blk_drewN ?_ _ | refine blk_drew ?_ | refine blk_alloc ?_ _)); refine blk_far ?_ NB115_110.out _; (with_reducible repeat (first | refine blk_drewN ?_ _ | refine blk_drew ?_ | refine blk_alloc ?_ _)); refine blk_put (cs := #[.int .i64 2, .int .i64 a2_1, .int .i64 a2_2, .int .i64 a2_3, .int .i64 a2_4, .string (⟨#[]⟩ : ByteArray), .int .i64 0]) ?_ 6 _ rfl; (with_reducible repeat (first | refine blk_drewN ?_ _ | refine blk_drew ?_ | refine blk_alloc ?_ _)); refine blk_put (cs := #[.int .i64 2, .int .i64 a2_1, .int .i64 a2_2, .int .i64 a2_3, .int .i64 a2_4, .string (⟨#[]⟩ : ByteArray), .int .i64 0]) ?_ 5 _ rfl; (with_reducible repeat (first | refine blk_drewN ?_ _ | refine blk_drew ?_ | refine blk_alloc ?_ _)); refine blk_put (cs := #[.int .i64 2, .int .i64 a2_1, .int .i64 a2_2, .int .i64 a2_3, .int .i64 0, .string (⟨#[]⟩ : ByteArray), .int .i64 0]) ?_ 4 _ rfl; (with_reducible repeat (first | refine blk_drewN ?_ _ | refine blk_drew ?_ | refine blk_alloc ?_ _)); refine blk_put (cs := #[.int .i64 2, .int .i64 a2_1, .int .i64 a2_2, .int .i64 0, .int .i64 0, .string (⟨#[]⟩ : ByteArray), .int .i64 0]) ?_ 3 _ rfl; (with_reducible repeat (first | refine blk_drewN ?_ _ | refine blk_drew ?_ | refine blk_alloc ?_ _)); refine blk_put (cs := #[.int .i64 2, .int .i64 a2_1, .int .i64 0, .int .i64 0, .int .i64 0, .string (⟨#[]⟩ : ByteArray), .int .i64 0]) ?_ 2 _ rfl; (with_reducible repeat (first | refine blk_drewN ?_ _ | refine blk_drew ?_ | refine blk_alloc ?_ _)); refine blk_put (cs := #[.int .i64 2, .int .i64 0, .int .i64 0, .int .i64 0, .int .i64 0, .string (⟨#[]⟩ : ByteArray), .int .i64 0]) ?_ 1 _ rfl; (with_reducible repeat (first | refine blk_drewN ?_ _ | refine blk_drew ?_ | refine blk_alloc ?_ _)); refine blk_put (cs := #[.int .i64 0, .int .i64 0, .int .i64 0, .int .i64 0, .int .i64 0, .string (⟨#[]⟩ : ByteArray), .int .i64 0]) ?_ 0 _ rfl; (with_reducible repeat (first | refine blk_drewN ?_ _ | refine blk_drew ?_ | refine blk_alloc ?_ _)); exact BK115.out⟩
        have n5_ : Aside0 (Below w.heap.size w (((((((((w68.setCell ⟨gb115, 0, none⟩ (.int .i64 2)).setCell ⟨gb115, 1, none⟩ (.int .i64 a2_1)).setCell ⟨gb115, 2, none⟩ (.int .i64 a2_2)).setCell ⟨gb115, 3, none⟩ (.int .i64 a2_3)).setCell ⟨gb115, 4, none⟩ (.int .i64 a2_4)).setCell ⟨gb115, 5, none⟩ (.string (⟨#[]⟩ : ByteArray))).setCell ⟨gb115, 6, none⟩ (.int .i64 a2_6)).setCell ⟨gb110, 3, none⟩ (.int .i64 0)).setCell ⟨gb115, 6, none⟩ (.int .i64 4))) := ⟨by repeat (first | (with_reducible first | exact HB.out | apply below_alloc | apply pw_below_drewN | apply below_drew1 | refine below_set ?_ GE109.out | refine below_set ?_ GE110.out | refine below_set ?_ GE111.out | refine below_set ?_ GE112.out | refine below_set ?_ GE115.out) | exact HB.out)⟩
        (try clear BK109)
        (try clear BK110)
        (try clear BK111)
        (try clear BK112)
        (try clear BK115)
        (try clear HB)
        generalize (((((((((w68.setCell ⟨gb115, 0, none⟩ (.int .i64 2)).setCell ⟨gb115, 1, none⟩ (.int .i64 a2_1)).setCell ⟨gb115, 2, none⟩ (.int .i64 a2_2)).setCell ⟨gb115, 3, none⟩ (.int .i64 a2_3)).setCell ⟨gb115, 4, none⟩ (.int .i64 a2_4)).setCell ⟨gb115, 5, none⟩ (.string (⟨#[]⟩ : ByteArray))).setCell ⟨gb115, 6, none⟩ (.int .i64 a2_6)).setCell ⟨gb110, 3, none⟩ (.int .i64 0)).setCell ⟨gb115, 6, none⟩ (.int .i64 4)) = w78 at n0_ n1_ n2_ n3_ n4_ n5_ ⊢
        have BK109 := n0_
        have BK110 := n1_
        have BK111 := n2_
        have BK112 := n3_
        have BK115 := n4_
        have HB := n5_
        clear n0_ n1_ n2_ n3_ n4_ n5_
        have n0_ := Aside0.mk (blk_drew BK109.out)
        have n1_ := Aside0.mk (blk_drew BK110.out)
        have n2_ := Aside0.mk (blk_drew BK111.out)
        have n3_ := Aside0.mk (blk_drew BK112.out)
        have n4_ := Aside0.mk (blk_drew BK115.out)
        have n5_ := Aside0.mk (below_drew1 HB.out)
        clear BK109
        clear BK110
        clear BK111
        clear BK112
        clear BK115
        clear HB
        have BK109 := n0_
        have BK110 := n1_
        have BK111 := n2_
        have BK112 := n3_
        have BK115 := n4_
        have HB := n5_
        clear n0_ n1_ n2_ n3_ n4_ n5_
        refine start_ (n := 5) (S := fun w' => True) (ds := []) #[false, false, false, false, false] (by kernel_rfl) rfl rfl trivial (fun hHeld => ?_); refine with_tabW stuff_Step.tab17 stuff_Step.bits17 (fun HT_ HW_ => ?_)
        generalize w78.drew = w79 at BK109 BK110 BK111 BK112 BK115 HB hHeld ⊢
        refine inv_at [0, 1, 2, 3, 4] (fun a0_ b a w' => ∃ (v122 : Value) (m4_ : Value), a = putSel a0_ b [(0, 83, .agg #[.int .i64 a1_0, .int .i64 a2_1, .int .i64 a1_2, .int .i64 0, .int .i64 a1_4, .int .i64 a1_5, .int .i64 a1_6, .string a1_7]), (1, 84, .agg #[.int .i64 2, .int .i64 a2_1, .int .i64 a2_2, .int .i64 a2_3, .int .i64 a2_4, .string (⟨#[]⟩ : ByteArray), .int .i64 4]), (2, 85, v122), (4, 7, m4_)] ∧ (w'.heap[gb109]? = some (.cells #[.int .i64 a0_0, .bool a0_1] 23 (0, 0))) ∧ (w'.heap[gb110]? = some (.cells #[.int .i64 a1_0, .int .i64 a2_1, .int .i64 a1_2, .int .i64 0, .int .i64 a1_4, .int .i64 a1_5, .int .i64 a1_6, .string a1_7] 28 (0, 0))) ∧ (w'.heap[gb111]? = some (.cells #[.int .i64 a2_0, .int .i64 a2_1, .int .i64 a2_2, .int .i64 a2_3, .int .i64 a2_4, .string a2_5, .int .i64 a2_6] 33 (0, 0))) ∧ (b 3 = false → w'.heap[gb112]? = some (.cells #[.int .i64 x113000_27, .int .i64 x113001_27, .int .i64 x113002_27, .int .i64 x113003_27, .int .i64 x113004_27, .int .i64 x113005_27, .int .i64 x113006_27, .string x113007_27] 28 (0, 0))) ∧ (w'.heap[gb115]? = some (.cells #[.int .i64 2, .int .i64 a2_1, .int .i64 a2_2, .int .i64 a2_3, .int .i64 a2_4, .string (⟨#[]⟩ : ByteArray), .int .i64 4] 33 (0, 0))) ∧ (Below w.heap.size w w') ∧ (b 2 = true → Kd.R k33 33 w' w.heap.size (fun k_ => k_ ≠ gb111 ∧ k_ ≠ gb115) v122 y121) ∧ (b 3 = true → w'.heap[gb112]? = some (.cells #[.int .i64 a1_0, .int .i64 a2_1, .int .i64 a1_2, .int .i64 0, .int .i64 a1_4, .int .i64 a1_5, .int .i64 a1_6, .string a1_7] 28 (0, 0))) ∧ (b 4 = true → (m4_ : Value) = v122)) HT_.out HW_.out (by kernel_rfl) (by kernel_rfl) ?_ ?_ ?_
        ·exact ⟨.bool false, .bool false, by simp only [putSel, Bool.false_eq_true, if_false], BK109.out, BK110.out, BK111.out, fun _ => BK112.out, BK115.out, HB.out, fun h_ => absurd h_ (by decide), fun h_ => absurd h_ (by decide), fun h_ => absurd h_ (by decide)⟩
        ·skip
         clear BK109 BK110 BK111 BK112 BK115 HB
         refine steps_cons ?_ ?_
         ·rintro b a w' ⟨v122, m4_, ha, Q_BK109, Q_BK110, Q_BK111, Q_BK112, Q_BK115, Q_HB, Q_HO123, Q_BK112_e3, Q_X4_⟩ hb_ hon hoff
          refine ⟨_, rfl, fun K hK => ?_⟩
          have e4 : a.tmps[4]? = some (.pointer (some ⟨gb110, 0, none⟩)) := by rw [ha]; exact (putSel_off rfl).trans rfl
          replace ha := Aside0.mk ha
          have BK109 := Aside0.mk Q_BK109
          have BK110 := Aside0.mk Q_BK110
          have BK111 := Aside0.mk Q_BK111
          have BK112 := Aside0.mk (Q_BK112 (hoff 3 (by kernel_rfl)))
          have BK115 := Aside0.mk Q_BK115
          have HB := Aside0.mk Q_HB
          have hc0_ : w'.cell? ⟨gb110, 0, none⟩ = some (.int .i64 a1_0) := (blk_cell BK110.out 0).trans rfl
          have hc1_ : w'.cell? ⟨gb110, 1, none⟩ = some (.int .i64 a2_1) := (blk_cell BK110.out 1).trans rfl
          have hc2_ : w'.cell? ⟨gb110, 2, none⟩ = some (.int .i64 a1_2) := (blk_cell BK110.out 2).trans rfl
          have hc3_ : w'.cell? ⟨gb110, 3, none⟩ = some (.int .i64 0) := (blk_cell BK110.out 3).trans rfl
          have hc4_ : w'.cell? ⟨gb110, 4, none⟩ = some (.int .i64 a1_4) := (blk_cell BK110.out 4).trans rfl
          have hc5_ : w'.cell? ⟨gb110, 5, none⟩ = some (.int .i64 a1_5) := (blk_cell BK110.out 5).trans rfl
          have hc6_ : w'.cell? ⟨gb110, 6, none⟩ = some (.int .i64 a1_6) := (blk_cell BK110.out 6).trans rfl
          have hc7_ : w'.cell? ⟨gb110, 7, none⟩ = some (.string a1_7) := (blk_cell BK110.out 7).trans rfl
          refine value_ (w1 := w') (v := .agg #[.int .i64 a1_0, .int .i64 a2_1, .int .i64 a1_2, .int .i64 0, .int .i64 a1_4, .int .i64 a1_5, .int .i64 a1_6, .string a1_7]) (by rfl) rfl ?_ ?_
          ·go_simp
           (try simp only [i64_w, u8_w, u32_w, w64_m8, w64_m32])
           try rfl
          refine hK.out _ _ ⟨v122, m4_, (by rw [ha.out]; exact putSel_upk 0 hb_ rfl rfl rfl), Q_BK109, Q_BK110, Q_BK111, Q_BK112, Q_BK115, Q_HB, Q_HO123, fun h0_ => absurd ((hoff 3 (by kernel_rfl)).symm.trans h0_) (by decide), fun h0_ => absurd ((hoff 4 (by kernel_rfl)).symm.trans h0_) (by decide)⟩
         refine steps_cons ?_ ?_
         ·rintro b a w' ⟨v122, m4_, ha, Q_BK109, Q_BK110, Q_BK111, Q_BK112, Q_BK115, Q_HB, Q_HO123, Q_BK112_e3, Q_X4_⟩ hb_ hon hoff
          refine ⟨_, rfl, fun K hK => ?_⟩
          have e8 : a.tmps[8]? = some (.pointer (some ⟨gb115, 0, none⟩)) := by rw [ha]; exact (putSel_off rfl).trans rfl
          replace ha := Aside0.mk ha
          have BK109 := Aside0.mk Q_BK109
          have BK110 := Aside0.mk Q_BK110
          have BK111 := Aside0.mk Q_BK111
          have BK115 := Aside0.mk Q_BK115
          have HB := Aside0.mk Q_HB
          have hc0_ : w'.cell? ⟨gb115, 0, none⟩ = some (.int .i64 2) := (blk_cell BK115.out 0).trans rfl
          have hc1_ : w'.cell? ⟨gb115, 1, none⟩ = some (.int .i64 a2_1) := (blk_cell BK115.out 1).trans rfl
          have hc2_ : w'.cell? ⟨gb115, 2, none⟩ = some (.int .i64 a2_2) := (blk_cell BK115.out 2).trans rfl
          have hc3_ : w'.cell? ⟨gb115, 3, none⟩ = some (.int .i64 a2_3) := (blk_cell BK115.out 3).trans rfl
          have hc4_ : w'.cell? ⟨gb115, 4, none⟩ = some (.int .i64 a2_4) := (blk_cell BK115.out 4).trans rfl
          have hc5_ : w'.cell? ⟨gb115, 5, none⟩ = some (.string (⟨#[]⟩ : ByteArray)) := (blk_cell BK115.out 5).trans rfl
          have hc6_ : w'.cell? ⟨gb115, 6, none⟩ = some (.int .i64 4) := (blk_cell BK115.out 6).trans rfl
          refine value_ (w1 := w') (v := .agg #[.int .i64 2, .int .i64 a2_1, .int .i64 a2_2, .int .i64 a2_3, .int .i64 a2_4, .string (⟨#[]⟩ : ByteArray), .int .i64 4]) (by rfl) rfl ?_ ?_
          ·go_simp
           (try simp only [i64_w, u8_w, u32_w, w64_m8, w64_m32])
           try rfl
          refine hK.out _ _ ⟨v122, m4_, (by rw [ha.out]; exact putSel_upk 1 hb_ rfl rfl rfl), Q_BK109, Q_BK110, Q_BK111, Q_BK112, Q_BK115, Q_HB, fun h0_ => absurd ((hoff 2 (by kernel_rfl)).symm.trans h0_) (by decide), Q_BK112_e3, fun h0_ => absurd ((hoff 4 (by kernel_rfl)).symm.trans h0_) (by decide)⟩
         refine steps_cons ?_ ?_
         ·rintro b a w' ⟨v122, m4_, ha, Q_BK109, Q_BK110, Q_BK111, Q_BK112, Q_BK115, Q_HB, Q_HO123, Q_BK112_e3, Q_X4_⟩ hb_ hon hoff
          refine ⟨_, rfl, fun K hK => ?_⟩
          have e84 : a.tmps[84]? = some (.agg #[.int .i64 2, .int .i64 a2_1, .int .i64 a2_2, .int .i64 a2_3, .int .i64 a2_4, .string (⟨#[]⟩ : ByteArray), .int .i64 4]) := by rw [ha]; exact putSel_on (e := (1, 84, .agg #[.int .i64 2, .int .i64 a2_1, .int .i64 a2_2, .int .i64 a2_3, .int .i64 a2_4, .string (⟨#[]⟩ : ByteArray), .int .i64 4])) 1 rfl rfl (hon 1 (by kernel_rfl)) rfl
          replace ha := Aside0.mk ha
          have BK109 := Aside0.mk Q_BK109
          have BK110 := Aside0.mk Q_BK110
          have BK111 := Aside0.mk Q_BK111
          have BK115 := Aside0.mk Q_BK115
          have HB := Aside0.mk Q_HB
          refine Kd.R_lit_step k33 _ 33 ?hg (N := 85) ?hd (xs := ([(⟨2, a2_1, a2_2, a2_3, a2_4, (⟨#[]⟩ : ByteArray), 4⟩ : S33)] : List (S33))) (inner := [.int .i64 2, .int .i64 a2_1, .int .i64 a2_2, .int .i64 a2_3, .int .i64 a2_4, .string (⟨#[]⟩ : ByteArray), .int .i64 4]) (ok := fun _ => True) (okp := fun _ => True) ?hr ?hp (fun _ hk => hk) trivial (Below.refl _ _) (Nat.le_refl _) (by simp) ?_; (case hd => rfl); (case hg => rfl); (case hr => first | (go_simp; done) | (go_simp; rfl)); (case hp => exact (Reps.c7 (show Kd.M k33 _ _ _ (⟨2, a2_1, a2_2, a2_3, a2_4, (⟨#[]⟩ : ByteArray), 4⟩ : S33) [.int .i64 2, .int .i64 a2_1, .int .i64 a2_2, .int .i64 a2_3, .int .i64 a2_4, .string (⟨#[]⟩ : ByteArray), .int .i64 4] from (k33_mkM _ _ _ (⟨2, a2_1, a2_2, a2_3, a2_4, (⟨#[]⟩ : ByteArray), 4⟩ : S33) )) (Reps.none _ _)))
          intro v122 w80 ho81 hb hg_ hnew_
          clear hg_ hnew_
          (first | rw [← Ny121.out] at ho81 | (simp only [Int.reduceToNat] at ho81; rw [← Ny121.out] at ho81))
          have n0_ := Aside0.mk (Kd.R_lower (Kd.R_newB (Kd.R_newB ho81 (g := gb111) (o := .cells #[.int .i64 a2_0, .int .i64 a2_1, .int .i64 a2_2, .int .i64 a2_3, .int .i64 a2_4, .string a2_5, .int .i64 a2_6] 33 (0, 0)) (bkw BK111.out)) (g := gb115) (o := .cells #[.int .i64 2, .int .i64 a2_1, .int .i64 a2_2, .int .i64 a2_3, .int .i64 a2_4, .string (⟨#[]⟩ : ByteArray), .int .i64 4] 33 (0, 0)) (bkw BK115.out)) (below_size (hbw HB.out)))
          have n1_ := Aside0.mk (blkb BK109.out hb)
          have n2_ := Aside0.mk (blkb BK110.out hb)
          have n3_ := Aside0.mk (blkb BK111.out hb)
          have n5_ := Aside0.mk (blkb BK115.out hb)
          have n6_ := Aside0.mk (below_step (hbw HB.out) hb)
          have z_BK112 := fun (h0_ : b 3 = false) => (show w80.heap[gb112]? = some (.cells #[.int .i64 x113000_27, .int .i64 x113001_27, .int .i64 x113002_27, .int .i64 x113003_27, .int .i64 x113004_27, .int .i64 x113005_27, .int .i64 x113006_27, .string x113007_27] 28 (0, 0)) from by first | exact (blk_below (g := gb112) (o := .cells #[.int .i64 x113000_27, .int .i64 x113001_27, .int .i64 x113002_27, .int .i64 x113003_27, .int .i64 x113004_27, .int .i64 x113005_27, .int .i64 x113006_27, .string x113007_27] 28 (0, 0)) (by (with_reducible repeat (first | refine blk_drewN ?_ _ | refine blk_drew ?_ | refine blk_alloc ?_ _)); exact (Q_BK112 h0_)) hb))
          have z_BK112_e3 := fun (h0_ : b 3 = true) => (show w80.heap[gb112]? = some (.cells #[.int .i64 a1_0, .int .i64 a2_1, .int .i64 a1_2, .int .i64 0, .int .i64 a1_4, .int .i64 a1_5, .int .i64 a1_6, .string a1_7] 28 (0, 0)) from by first | exact (blk_below (g := gb112) (o := .cells #[.int .i64 a1_0, .int .i64 a2_1, .int .i64 a1_2, .int .i64 0, .int .i64 a1_4, .int .i64 a1_5, .int .i64 a1_6, .string a1_7] 28 (0, 0)) (by (with_reducible repeat (first | refine blk_drewN ?_ _ | refine blk_drew ?_ | refine blk_alloc ?_ _)); exact (Q_BK112_e3 h0_)) hb))
          clear BK109
          clear BK110
          clear BK111
          clear BK115
          clear HB
          have HO123 := n0_
          have BK109 := n1_
          have BK110 := n2_
          have BK111 := n3_
          have BK115 := n5_
          have HB := n6_
          clear n0_ n1_ n2_ n3_ n5_ n6_
          clear hb ho81
          refine hK.out _ _ ⟨v122, m4_, (by rw [ha.out]; exact putSel_upk 2 hb_ rfl rfl rfl), (bkw BK109.out), (bkw BK110.out), (bkw BK111.out), z_BK112, (bkw BK115.out), (hbw HB.out), fun _ => (by (with_reducible repeat (first | apply Kd.R_alloc | apply Kd.R_drewN | apply Kd.R_drew)); exact Kd.R_mono HO123.out (fun _ hk => ⟨hk.1.2, hk.2⟩)), z_BK112_e3, fun h0_ => absurd ((hoff 4 (by kernel_rfl)).symm.trans h0_) (by decide)⟩
         refine steps_cons ?_ ?_
         ·rintro b a w' ⟨v122, m4_, ha, Q_BK109, Q_BK110, Q_BK111, Q_BK112, Q_BK115, Q_HB, Q_HO123, Q_BK112_e3, Q_X4_⟩ hb_ hon hoff
          refine ⟨_, rfl, fun K hK => ?_⟩
          have e6 : a.tmps[6]? = some (.pointer (some ⟨gb112, 0, none⟩)) := by rw [ha]; exact (putSel_off rfl).trans rfl
          have e83 : a.tmps[83]? = some (.agg #[.int .i64 a1_0, .int .i64 a2_1, .int .i64 a1_2, .int .i64 0, .int .i64 a1_4, .int .i64 a1_5, .int .i64 a1_6, .string a1_7]) := by rw [ha]; exact putSel_on (e := (0, 83, .agg #[.int .i64 a1_0, .int .i64 a2_1, .int .i64 a1_2, .int .i64 0, .int .i64 a1_4, .int .i64 a1_5, .int .i64 a1_6, .string a1_7])) 0 rfl rfl (hon 0 (by kernel_rfl)) rfl
          replace ha := Aside0.mk ha
          have BK109 := Aside0.mk Q_BK109
          have BK110 := Aside0.mk Q_BK110
          have BK111 := Aside0.mk Q_BK111
          have BK112 := Aside0.mk (Q_BK112 hb_)
          have BK115 := Aside0.mk Q_BK115
          have HB := Aside0.mk Q_HB
          have hs80 : w'.cell? ⟨gb112, 0, none⟩ = some (.int .i64 x113000_27) := (blk_cell BK112.out 0).trans rfl
          have hfs80 := blk_frozen BK112.out 0
          have hns80_0 := NB109_112.out
          have hns80_1 := NB110_112.out
          have hns80_2 := NB111_112.out
          have hns80_4 := NB115_112.out
          have hms80_0 := NB112_109.out
          have hms80_1 := NB112_110.out
          have hms80_2 := NB112_111.out
          have hms80_4 := NB112_115.out
          have hs81 : w'.cell? ⟨gb112, 1, none⟩ = some (.int .i64 x113001_27) := (blk_cell BK112.out 1).trans rfl
          have hfs81 := blk_frozen BK112.out 1
          have hns81_0 := NB109_112.out
          have hns81_1 := NB110_112.out
          have hns81_2 := NB111_112.out
          have hns81_4 := NB115_112.out
          have hms81_0 := NB112_109.out
          have hms81_1 := NB112_110.out
          have hms81_2 := NB112_111.out
          have hms81_4 := NB112_115.out
          have hs82 : w'.cell? ⟨gb112, 2, none⟩ = some (.int .i64 x113002_27) := (blk_cell BK112.out 2).trans rfl
          have hfs82 := blk_frozen BK112.out 2
          have hns82_0 := NB109_112.out
          have hns82_1 := NB110_112.out
          have hns82_2 := NB111_112.out
          have hns82_4 := NB115_112.out
          have hms82_0 := NB112_109.out
          have hms82_1 := NB112_110.out
          have hms82_2 := NB112_111.out
          have hms82_4 := NB112_115.out
          have hs83 : w'.cell? ⟨gb112, 3, none⟩ = some (.int .i64 x113003_27) := (blk_cell BK112.out 3).trans rfl
          have hfs83 := blk_frozen BK112.out 3
          have hns83_0 := NB109_112.out
          have hns83_1 := NB110_112.out
          have hns83_2 := NB111_112.out
          have hns83_4 := NB115_112.out
          have hms83_0 := NB112_109.out
          have hms83_1 := NB112_110.out
          have hms83_2 := NB112_111.out
          have hms83_4 := NB112_115.out
          have hs84 : w'.cell? ⟨gb112, 4, none⟩ = some (.int .i64 x113004_27) := (blk_cell BK112.out 4).trans rfl
          have hfs84 := blk_frozen BK112.out 4
          have hns84_0 := NB109_112.out
          have hns84_1 := NB110_112.out
          have hns84_2 := NB111_112.out
          have hns84_4 := NB115_112.out
          have hms84_0 := NB112_109.out
          have hms84_1 := NB112_110.out
          have hms84_2 := NB112_111.out
          have hms84_4 := NB112_115.out
          have hs85 : w'.cell? ⟨gb112, 5, none⟩ = some (.int .i64 x113005_27) := (blk_cell BK112.out 5).trans rfl
          have hfs85 := blk_frozen BK112.out 5
          have hns85_0 := NB109_112.out
          have hns85_1 := NB110_112.out
          have hns85_2 := NB111_112.out
          have hns85_4 := NB115_112.out
          have hms85_0 := NB112_109.out
          have hms85_1 := NB112_110.out
          have hms85_2 := NB112_111.out
          have hms85_4 := NB112_115.out
          have hs86 : w'.cell? ⟨gb112, 6, none⟩ = some (.int .i64 x113006_27) := (blk_cell BK112.out 6).trans rfl
          have hfs86 := blk_frozen BK112.out 6
          have hns86_0 := NB109_112.out
          have hns86_1 := NB110_112.out
          have hns86_2 := NB111_112.out
          have hns86_4 := NB115_112.out
          have hms86_0 := NB112_109.out
          have hms86_1 := NB112_110.out
          have hms86_2 := NB112_111.out
          have hms86_4 := NB112_115.out
          have hs87 : w'.cell? ⟨gb112, 7, none⟩ = some (.string x113007_27) := (blk_cell BK112.out 7).trans rfl
          have hfs87 := blk_frozen BK112.out 7
          have hns87_0 := NB109_112.out
          have hns87_1 := NB110_112.out
          have hns87_2 := NB111_112.out
          have hns87_4 := NB115_112.out
          have hms87_0 := NB112_109.out
          have hms87_1 := NB112_110.out
          have hms87_2 := NB112_111.out
          have hms87_4 := NB112_115.out
          refine skip_ (w1 := ?_) (by rfl) rfl ?_ ?_
          rotate_left
          ·go_simp
           rfl
          refine hK.out _ _ ⟨v122, m4_, (by rw [ha.out]; exact putSel_none (v := undef) rfl), (by (with_reducible repeat (first | refine blk_drewN ?_ _ | refine blk_drew ?_ | refine blk_alloc ?_ _)); refine blk_far ?_ NB109_112.out _; (with_reducible repeat (first | refine blk_drewN ?_ _ | refine blk_drew ?_ | refine blk_alloc ?_ _)); refine blk_far ?_ NB109_112.out _; (with_reducible repeat (first | refine blk_drewN ?_ _ | refine blk_drew ?_ | refine blk_alloc ?_ _)); refine blk_far ?_ NB109_112.out _; (with_reducible repeat (first | refine blk_drewN ?_ _ | refine blk_drew ?_ | refine blk_alloc ?_ _)); refine blk_far ?_ NB109_112.out _; (with_reducible repeat (first | refine blk_drewN ?_ _ | refine blk_drew ?_ | refine blk_alloc ?_ _)); refine blk_far ?_ NB109_112.out _; (with_reducible repeat (first | refine blk_drewN ?_ _ | refine blk_drew ?_ | refine blk_alloc ?_ _)); refine blk_far ?_ NB109_112.out _; (with_reducible repeat (first | refine blk_drewN ?_ _ | refine blk_drew ?_ | refine blk_alloc ?_ _)); refine blk_far ?_ NB109_112.out _; (with_reducible repeat (first | refine blk_drewN ?_ _ | refine blk_drew ?_ | refine blk_alloc ?_ _)); refine blk_far ?_ NB109_112.out _; (with_reducible repeat (first | refine blk_drewN ?_ _ | refine blk_drew ?_ | refine blk_alloc ?_ _)); exact BK109.out), (by (with_reducible repeat (first | refine blk_drewN ?_ _ | refine blk_drew ?_ | refine blk_alloc ?_ _)); refine blk_far ?_ NB110_112.out _; (with_reducible repeat (first | refine blk_drewN ?_ _ | refine blk_drew ?_ | refine blk_alloc ?_ _)); refine blk_far ?_ NB110_112.out _; (with_reducible repeat (first | refine blk_drewN ?_ _ | refine blk_drew ?_ | refine blk_alloc ?_ _)); refine blk_far ?_ NB110_112.out _; (with_reducible repeat (first | refine blk_drewN ?_ _ | refine blk_drew ?_ | refine blk_alloc ?_ _)); refine blk_far ?_ NB110_112.out _; (with_reducible repeat (first | refine blk_drewN ?_ _ | refine blk_drew ?_ | refine blk_alloc ?_ _)); refine blk_far ?_ NB110_112.out _; (with_reducible repeat (first | refine blk_drewN ?_ _ | refine blk_drew ?_ | refine blk_alloc ?_ _)); refine blk_far ?_ NB110_112.out _; (with_reducible repeat (first | refine blk_drewN ?_ _ | refine blk_drew ?_ | refine blk_alloc ?_ _)); refine blk_far ?_ NB110_112.out _; (with_reducible repeat (first | refine blk_drewN ?_ _ | refine blk_drew ?_ | refine blk_alloc ?_ _)); refine blk_far ?_ NB110_112.out _; (with_reducible repeat (first | refine blk_drewN ?_ _ | refine blk_drew ?_ | refine blk_alloc ?_ _)); exact BK110.out), (by (with_reducible repeat (first | refine blk_drewN ?_ _ | refine blk_drew ?_ | refine blk_alloc ?_ _)); refine blk_far ?_ NB111_112.out _; (with_reducible repeat (first | refine blk_drewN ?_ _ | refine blk_drew ?_ | refine blk_alloc ?_ _)); refine blk_far ?_ NB111_112.out _; (with_reducible repeat (first | refine blk_drewN ?_ _ | refine blk_drew ?_ | refine blk_alloc ?_ _)); refine blk_far ?_ NB111_112.out _; (with_reducible repeat (first | refine blk_drewN ?_ _ | refine blk_drew ?_ | refine blk_alloc ?_ _)); refine blk_far ?_ NB111_112.out _; (with_reducible repeat (first | refine blk_drewN ?_ _ | refine blk_drew ?_ | refine blk_alloc ?_ _)); refine blk_far ?_ NB111_112.out _; (with_reducible repeat (first | refine blk_drewN ?_ _ | refine blk_drew ?_ | refine blk_alloc ?_ _)); refine blk_far ?_ NB111_112.out _; (with_reducible repeat (first | refine blk_drewN ?_ _ | refine blk_drew ?_ | refine blk_alloc ?_ _)); refine blk_far ?_ NB111_112.out _; (with_reducible repeat (first | refine blk_drewN ?_ _ | refine blk_drew ?_ | refine blk_alloc ?_ _)); refine blk_far ?_ NB111_112.out _; (with_reducible repeat (first | refine blk_drewN ?_ _ | refine blk_drew ?_ | refine blk_alloc ?_ _)); exact BK111.out), fun h0_ => absurd ((up_self b 3).symm.trans h0_) (by decide), (by (with_reducible repeat (first | refine blk_drewN ?_ _ | refine blk_drew ?_ | refine blk_alloc ?_ _)); refine blk_far ?_ NB115_112.out _; (with_reducible repeat (first | refine blk_drewN ?_ _ | refine blk_drew ?_ | refine blk_alloc ?_ _)); refine blk_far ?_ NB115_112.out _; (with_reducible repeat (first | refine blk_drewN ?_ _ | refine blk_drew ?_ | refine blk_alloc ?_ _)); refine blk_far ?_ NB115_112.out _; (with_reducible repeat (first | refine blk_drewN ?_ _ | refine blk_drew ?_ | refine blk_alloc ?_ _)); refine blk_far ?_ NB115_112.out _; (with_reducible repeat (first | refine blk_drewN ?_ _ | refine blk_drew ?_ | refine blk_alloc ?_ _)); refine blk_far ?_ NB115_112.out _; (with_reducible repeat (first | refine blk_drewN ?_ _ | refine blk_drew ?_ | refine blk_alloc ?_ _)); refine blk_far ?_ NB115_112.out _; (with_reducible repeat (first | refine blk_drewN ?_ _ | refine blk_drew ?_ | refine blk_alloc ?_ _)); refine blk_far ?_ NB115_112.out _; (with_reducible repeat (first | refine blk_drewN ?_ _ | refine blk_drew ?_ | refine blk_alloc ?_ _)); refine blk_far ?_ NB115_112.out _; (with_reducible repeat (first | refine blk_drewN ?_ _ | refine blk_drew ?_ | refine blk_alloc ?_ _)); exact BK115.out), (hbw HB.out), fun h0_ => (by (with_reducible repeat (first | apply Kd.R_alloc | apply Kd.R_drewN | apply Kd.R_drew)); exact Kd.R_mono (Kd.R_far (p := ⟨gb112, 7, none⟩) (Kd.R_far (p := ⟨gb112, 6, none⟩) (Kd.R_far (p := ⟨gb112, 5, none⟩) (Kd.R_far (p := ⟨gb112, 4, none⟩) (Kd.R_far (p := ⟨gb112, 3, none⟩) (Kd.R_far (p := ⟨gb112, 2, none⟩) (Kd.R_far (p := ⟨gb112, 1, none⟩) (Kd.R_far (p := ⟨gb112, 0, none⟩) (Kd.R_types (Q_HO123 h0_) BK112.out (by decide)) (fun _ hk => hk.2) (.int .i64 a1_0)) (fun _ hk => hk.2) (.int .i64 a2_1)) (fun _ hk => hk.2) (.int .i64 a1_2)) (fun _ hk => hk.2) (.int .i64 0)) (fun _ hk => hk.2) (.int .i64 a1_4)) (fun _ hk => hk.2) (.int .i64 a1_5)) (fun _ hk => hk.2) (.int .i64 a1_6)) (fun _ hk => hk.2) (.string a1_7)) (fun _ hk => ⟨hk.1.1, hk.1.2⟩)), fun _ => (by (with_reducible repeat (first | refine blk_drewN ?_ _ | refine blk_drew ?_ | refine blk_alloc ?_ _)); refine blk_put (cs := #[.int .i64 a1_0, .int .i64 a2_1, .int .i64 a1_2, .int .i64 0, .int .i64 a1_4, .int .i64 a1_5, .int .i64 a1_6, .string x113007_27]) ?_ 7 _ rfl; (with_reducible repeat (first | refine blk_drewN ?_ _ | refine blk_drew ?_ | refine blk_alloc ?_ _)); refine blk_put (cs := #[.int .i64 a1_0, .int .i64 a2_1, .int .i64 a1_2, .int .i64 0, .int .i64 a1_4, .int .i64 a1_5, .int .i64 x113006_27, .string x113007_27]) ?_ 6 _ rfl; (with_reducible repeat (first | refine blk_drewN ?_ _ | refine blk_drew ?_ | refine blk_alloc ?_ _)); refine blk_put (cs := #[.int .i64 a1_0, .int .i64 a2_1, .int .i64 a1_2, .int .i64 0, .int .i64 a1_4, .int .i64 x113005_27, .int .i64 x113006_27, .string x113007_27]) ?_ 5 _ rfl; (with_reducible repeat (first | refine blk_drewN ?_ _ | refine blk_drew ?_ | refine blk_alloc ?_ _)); refine blk_put (cs := #[.int .i64 a1_0, .int .i64 a2_1, .int .i64 a1_2, .int .i64 0, .int .i64 x113004_27, .int .i64 x113005_27, .int .i64 x113006_27, .string x113007_27]) ?_ 4 _ rfl; (with_reducible repeat (first | refine blk_drewN ?_ _ | refine blk_drew ?_ | refine blk_alloc ?_ _)); refine blk_put (cs := #[.int .i64 a1_0, .int .i64 a2_1, .int .i64 a1_2, .int .i64 x113003_27, .int .i64 x113004_27, .int .i64 x113005_27, .int .i64 x113006_27, .string x113007_27]) ?_ 3 _ rfl; (with_reducible repeat (first | refine blk_drewN ?_ _ | refine blk_drew ?_ | refine blk_alloc ?_ _)); refine blk_put (cs := #[.int .i64 a1_0, .int .i64 a2_1, .int .i64 x113002_27, .int .i64 x113003_27, .int .i64 x113004_27, .int .i64 x113005_27, .int .i64 x113006_27, .string x113007_27]) ?_ 2 _ rfl; (with_reducible repeat (first | refine blk_drewN ?_ _ | refine blk_drew ?_ | refine blk_alloc ?_ _)); refine blk_put (cs := #[.int .i64 a1_0, .int .i64 x113001_27, .int .i64 x113002_27, .int .i64 x113003_27, .int .i64 x113004_27, .int .i64 x113005_27, .int .i64 x113006_27, .string x113007_27]) ?_ 1 _ rfl; (with_reducible repeat (first | refine blk_drewN ?_ _ | refine blk_drew ?_ | refine blk_alloc ?_ _)); refine blk_put (cs := #[.int .i64 x113000_27, .int .i64 x113001_27, .int .i64 x113002_27, .int .i64 x113003_27, .int .i64 x113004_27, .int .i64 x113005_27, .int .i64 x113006_27, .string x113007_27]) ?_ 0 _ rfl; (with_reducible repeat (first | refine blk_drewN ?_ _ | refine blk_drew ?_ | refine blk_alloc ?_ _)); exact BK112.out), fun h0_ => absurd ((hoff 4 (by kernel_rfl)).symm.trans h0_) (by decide)⟩
         refine steps_cons ?_ ?_
         ·rintro b a w' ⟨v122, m4_, ha, Q_BK109, Q_BK110, Q_BK111, Q_BK112, Q_BK115, Q_HB, Q_HO123, Q_BK112_e3, Q_X4_⟩ hb_ hon hoff
          refine ⟨_, rfl, fun K hK => ?_⟩
          have e85 : a.tmps[85]? = some (v122) := by rw [ha]; exact putSel_on (e := (2, 85, v122)) 2 rfl rfl (hon 2 (by kernel_rfl)) rfl
          replace ha := Aside0.mk ha
          have BK109 := Aside0.mk Q_BK109
          have BK110 := Aside0.mk Q_BK110
          have BK111 := Aside0.mk Q_BK111
          have BK115 := Aside0.mk Q_BK115
          have HB := Aside0.mk Q_HB
          have HO123 := Aside0.mk (Q_HO123 (hon 2 (by kernel_rfl)))
          have BK112 := Aside0.mk (Q_BK112_e3 (hon 3 (by kernel_rfl)))
          refine value_ (w1 := w') (v := v122) (by rfl) rfl ?_ ?_
          ·go_simp
           (try simp only [i64_w, u8_w, u32_w, w64_m8, w64_m32])
           try rfl
          refine hK.out _ _ ⟨v122, (v122), (by rw [ha.out]; exact putSel_upk 3 hb_ rfl rfl rfl), Q_BK109, Q_BK110, Q_BK111, fun h0_ => absurd ((hon 3 (by kernel_rfl)).symm.trans h0_) (by decide), Q_BK115, Q_HB, Q_HO123, Q_BK112_e3, fun _ => rfl⟩
         exact steps_nil
        rintro b a w90 hall ⟨v122, m4_, ha, Q_BK109, Q_BK110, Q_BK111, Q_BK112, Q_BK115, Q_HB, Q_HO123, Q_BK112_e3, Q_X4_⟩
        clear BK109 BK110 BK111 BK112 BK115 HB
        have hb0_ := hall 0 (by kernel_rfl)
        have hb1_ := hall 1 (by kernel_rfl)
        have hb2_ := hall 2 (by kernel_rfl)
        have hb3_ := hall 3 (by kernel_rfl)
        have hb4_ := hall 4 (by kernel_rfl)
        subst ha
        obtain rfl := Q_X4_ hb4_
        simp only [putSel, hb0_, hb1_, hb2_, hb3_, hb4_, if_true, Act.put, List.setIfInBounds_toArray, List.set_cons_zero, List.set_cons_succ]
        have BK109 := Aside0.mk Q_BK109
        clear Q_BK109
        have BK110 := Aside0.mk Q_BK110
        clear Q_BK110
        have BK111 := Aside0.mk Q_BK111
        clear Q_BK111
        clear Q_BK112
        have BK115 := Aside0.mk Q_BK115
        clear Q_BK115
        have HB := Aside0.mk Q_HB
        clear Q_HB
        have HO123 := Aside0.mk (Q_HO123 hb2_)
        clear Q_HO123
        have BK112 := Aside0.mk (Q_BK112_e3 hb3_)
        clear Q_BK112_e3
        clear hall hb0_ hb1_ hb2_ hb3_ hb4_
        try go_wp2
        refine bodyPost_ret (results_ct rfl _ _ gb112 28 #[.int .i64 a1_0, .int .i64 a2_1, .int .i64 a1_2, .int .i64 0, .int .i64 a1_4, .int .i64 a1_5, .int .i64 a1_6, .string a1_7] (0, 0) _ rfl (bkw BK112.out) Try.underlying28 rfl (by kernel_rfl)) rfl ?_
        exact ⟨_, by first | rfl | (simp [errW_none, errW_some] <;> rfl) | (simp [*, errW_none, errW_some] <;> rfl), by (with_reducible repeat (first | apply Kd.R_alloc | apply Kd.R_drewN | apply Kd.R_drew)); exact Kd.R_mono HO123.out (fun _ hk => trivial), by repeat (first | (with_reducible first | exact HB.out | apply below_alloc | apply pw_below_drewN | apply below_drew1 | refine below_set ?_ GE109.out | refine below_set ?_ GE110.out | refine below_set ?_ GE111.out | refine below_set ?_ GE112.out | refine below_set ?_ GE115.out) | exact HB.out)⟩
      ·rw [if_neg c38] at H
       have c38b0 : (a1_3 == a0_0) = false := beq_eq_false_iff_ne.mpr c38
       have c38b1 : (a1_3 != a0_0) = true := bne_iff_ne.mpr c38
       replace H := Option.bind_eq_some_iff.mp H
       obtain ⟨⟨t124, t125⟩, A910, H⟩ := H
       replace H : (some (a1_0, a2_1, a1_2, t124, a1_4, a1_5, t125, a1_7, (([(⟨2, a2_1, a2_2, a2_3, a2_4, (⟨#[]⟩ : ByteArray), a2_6⟩ : S33)] : List (S33))))) = some (r1, r2, r3, r4, r5, r6, r7, r8, r9) := H
       have A91 := Aside0.mk A910
       clear A910
       obtain ⟨y126, hy126⟩ : ∃ y_ : List (S33), y_ = (([(⟨2, a2_1, a2_2, a2_3, a2_4, (⟨#[]⟩ : ByteArray), a2_6⟩ : S33)] : List (S33))) := ⟨_, rfl⟩
       replace H : (some (a1_0, a2_1, a1_2, t124, a1_4, a1_5, t125, a1_7, y126)) = some (r1, r2, r3, r4, r5, r6, r7, r8, r9) := by first | (rw [hy126]; with_reducible exact H) | (have H2_ := (Option.bind_some _ _).symm.trans H; rw [hy126]; with_reducible exact H2_) | (have H2_ := (Option.bind_some _ _).symm.trans H; with_reducible exact H2_) | with_reducible exact H | (rw [hy126]; exact H) | exact H
       have Ny126 := Aside0.mk hy126
       clear hy126
       simp only [Option.some.injEq, Prod.mk.injEq] at H
       obtain ⟨rfl, rfl, rfl, rfl, rfl, rfl, rfl, rfl, rfl⟩ := H
       have hnb92 := NB111_109.out
       have hnc92 := NB109_111.out
       have hnb93 := NB111_110.out
       have hnc93 := NB110_111.out
       have hnb94 := NB111_112.out
       have hnc94 := NB112_111.out
       have hcz95_0 : wc.cell? ⟨gb111, 0, none⟩ = some (.int .i64 a2_0) := (blk_cell BK111.out 0).trans rfl
       have hcz95_1 : wc.cell? ⟨gb111, 1, none⟩ = some (.int .i64 a2_1) := (blk_cell BK111.out 1).trans rfl
       have hcz95_2 : wc.cell? ⟨gb111, 2, none⟩ = some (.int .i64 a2_2) := (blk_cell BK111.out 2).trans rfl
       have hcz95_3 : wc.cell? ⟨gb111, 3, none⟩ = some (.int .i64 a2_3) := (blk_cell BK111.out 3).trans rfl
       have hcz95_4 : wc.cell? ⟨gb111, 4, none⟩ = some (.int .i64 a2_4) := (blk_cell BK111.out 4).trans rfl
       have hcz95_5 : wc.cell? ⟨gb111, 5, none⟩ = some (.string a2_5) := (blk_cell BK111.out 5).trans rfl
       have hcz95_6 : wc.cell? ⟨gb111, 6, none⟩ = some (.int .i64 a2_6) := (blk_cell BK111.out 6).trans rfl
       have hfz95_0 := blk_frozen BK111.out 0
       have hfz95_1 := blk_frozen BK111.out 1
       have hfz95_2 := blk_frozen BK111.out 2
       have hfz95_3 := blk_frozen BK111.out 3
       have hfz95_4 := blk_frozen BK111.out 4
       have hfz95_5 := blk_frozen BK111.out 5
       have hfz95_6 := blk_frozen BK111.out 6
       have hnb96 := NB110_109.out
       have hnc96 := NB109_110.out
       have hnb97 := NB110_112.out
       have hnc97 := NB112_110.out
       have hcz98_0 : wc.cell? ⟨gb110, 0, none⟩ = some (.int .i64 a1_0) := (blk_cell BK110.out 0).trans rfl
       have hcz98_1 : wc.cell? ⟨gb110, 1, none⟩ = some (.int .i64 a1_1) := (blk_cell BK110.out 1).trans rfl
       have hcz98_2 : wc.cell? ⟨gb110, 2, none⟩ = some (.int .i64 a1_2) := (blk_cell BK110.out 2).trans rfl
       have hcz98_3 : wc.cell? ⟨gb110, 3, none⟩ = some (.int .i64 a1_3) := (blk_cell BK110.out 3).trans rfl
       have hcz98_4 : wc.cell? ⟨gb110, 4, none⟩ = some (.int .i64 a1_4) := (blk_cell BK110.out 4).trans rfl
       have hcz98_5 : wc.cell? ⟨gb110, 5, none⟩ = some (.int .i64 a1_5) := (blk_cell BK110.out 5).trans rfl
       have hcz98_6 : wc.cell? ⟨gb110, 6, none⟩ = some (.int .i64 a1_6) := (blk_cell BK110.out 6).trans rfl
       have hcz98_7 : wc.cell? ⟨gb110, 7, none⟩ = some (.string a1_7) := (blk_cell BK110.out 7).trans rfl
       have hfz98_0 := blk_frozen BK110.out 0
       have hfz98_1 := blk_frozen BK110.out 1
       have hfz98_2 := blk_frozen BK110.out 2
       have hfz98_3 := blk_frozen BK110.out 3
       have hfz98_4 := blk_frozen BK110.out 4
       have hfz98_5 := blk_frozen BK110.out 5
       have hfz98_6 := blk_frozen BK110.out 6
       have hfz98_7 := blk_frozen BK110.out 7
       try go_wp2_with (first | ((with_reducible refine gate_dst (N := 8) rfl ?_); refine box_event ?hg (N := 8) ?hd (cs := #[.int .i64 0, .int .i64 0, .int .i64 0, .int .i64 0, .int .i64 0, .string (⟨#[]⟩ : ByteArray), .int .i64 0]) (t := 33) ?hr ?_; (case hd => rfl); (case hg => rfl); (case hr => first | (go_simp; done) | (go_simp; rfl)); intro gb115 hg w99 hbox hb; have n0_ := Aside0.mk (blk_below (g := gb109) (o := .cells #[.int .i64 a0_0, .bool a0_1] 23 (0, 0)) (by (with_reducible repeat (first | refine blk_drewN ?_ _ | refine blk_drew ?_ | refine blk_alloc ?_ _)); refine blk_far ?_ NB109_110.out _; (with_reducible repeat (first | refine blk_drewN ?_ _ | refine blk_drew ?_ | refine blk_alloc ?_ _)); exact BK109.out) hb); have n1_ := Aside0.mk (blk_below (g := gb110) (o := .cells #[.int .i64 a1_0, .int .i64 a2_1, .int .i64 a1_2, .int .i64 a1_3, .int .i64 a1_4, .int .i64 a1_5, .int .i64 a1_6, .string a1_7] 28 (0, 0)) (by (with_reducible repeat (first | refine blk_drewN ?_ _ | refine blk_drew ?_ | refine blk_alloc ?_ _)); refine blk_put (cs := #[.int .i64 a1_0, .int .i64 a1_1, .int .i64 a1_2, .int .i64 a1_3, .int .i64 a1_4, .int .i64 a1_5, .int .i64 a1_6, .string a1_7]) ?_ 1 _ rfl; (with_reducible repeat (first | refine blk_drewN ?_ _ | refine blk_drew ?_ | refine blk_alloc ?_ _)); exact BK110.out) hb); have n2_ := Aside0.mk (blk_below (g := gb111) (o := .cells #[.int .i64 a2_0, .int .i64 a2_1, .int .i64 a2_2, .int .i64 a2_3, .int .i64 a2_4, .string a2_5, .int .i64 a2_6] 33 (0, 0)) (by (with_reducible repeat (first | refine blk_drewN ?_ _ | refine blk_drew ?_ | refine blk_alloc ?_ _)); refine blk_far ?_ NB111_110.out _; (with_reducible repeat (first | refine blk_drewN ?_ _ | refine blk_drew ?_ | refine blk_alloc ?_ _)); exact BK111.out) hb); have n3_ := Aside0.mk (blk_below (g := gb112) (o := .cells #[.int .i64 x113000_27, .int .i64 x113001_27, .int .i64 x113002_27, .int .i64 x113003_27, .int .i64 x113004_27, .int .i64 x113005_27, .int .i64 x113006_27, .string x113007_27] 28 (0, 0)) (by (with_reducible repeat (first | refine blk_drewN ?_ _ | refine blk_drew ?_ | refine blk_alloc ?_ _)); refine blk_far ?_ NB112_110.out _; (with_reducible repeat (first | refine blk_drewN ?_ _ | refine blk_drew ?_ | refine blk_alloc ?_ _)); exact BK112.out) hb); have n4_ := Aside0.mk (below_step (hbw HB.out) hb); have n5_ := Aside0.mk (hbox); have n6_ := Aside0.mk ((by rw [hg]; exact (below_size (hbw HB.out)) : w.heap.size ≤ gb115)); have n7_ := Aside0.mk ((by rw [hg]; exact (below_size (hbw HB.out)) : w.heap.size ≤ gb115)); have n8_ := Aside0.mk ((by rw [hg]; exact Nat.ne_of_lt (blk_lt (g := gb109) (o := .cells #[.int .i64 a0_0, .bool a0_1] 23 (0, 0)) (by (with_reducible repeat (first | refine blk_drewN ?_ _ | refine blk_drew ?_ | refine blk_alloc ?_ _)); refine blk_far ?_ NB109_110.out _; (with_reducible repeat (first | refine blk_drewN ?_ _ | refine blk_drew ?_ | refine blk_alloc ?_ _)); exact BK109.out)) : gb109 ≠ gb115)); have n9_ := Aside0.mk ((by rw [hg]; exact Nat.ne_of_gt (blk_lt (g := gb109) (o := .cells #[.int .i64 a0_0, .bool a0_1] 23 (0, 0)) (by (with_reducible repeat (first | refine blk_drewN ?_ _ | refine blk_drew ?_ | refine blk_alloc ?_ _)); refine blk_far ?_ NB109_110.out _; (with_reducible repeat (first | refine blk_drewN ?_ _ | refine blk_drew ?_ | refine blk_alloc ?_ _)); exact BK109.out)) : gb115 ≠ gb109)); have n10_ := Aside0.mk ((by rw [hg]; exact Nat.ne_of_lt (blk_lt (g := gb110) (o := .cells #[.int .i64 a1_0, .int .i64 a2_1, .int .i64 a1_2, .int .i64 a1_3, .int .i64 a1_4, .int .i64 a1_5, .int .i64 a1_6, .string a1_7] 28 (0, 0)) (by (with_reducible repeat (first | refine blk_drewN ?_ _ | refine blk_drew ?_ | refine blk_alloc ?_ _)); refine blk_put (cs := #[.int .i64 a1_0, .int .i64 a1_1, .int .i64 a1_2, .int .i64 a1_3, .int .i64 a1_4, .int .i64 a1_5, .int .i64 a1_6, .string a1_7]) ?_ 1 _ rfl; (with_reducible repeat (first | refine blk_drewN ?_ _ | refine blk_drew ?_ | refine blk_alloc ?_ _)); exact BK110.out)) : gb110 ≠ gb115)); have n11_ := Aside0.mk ((by rw [hg]; exact Nat.ne_of_gt (blk_lt (g := gb110) (o := .cells #[.int .i64 a1_0, .int .i64 a2_1, .int .i64 a1_2, .int .i64 a1_3, .int .i64 a1_4, .int .i64 a1_5, .int .i64 a1_6, .string a1_7] 28 (0, 0)) (by (with_reducible repeat (first | refine blk_drewN ?_ _ | refine blk_drew ?_ | refine blk_alloc ?_ _)); refine blk_put (cs := #[.int .i64 a1_0, .int .i64 a1_1, .int .i64 a1_2, .int .i64 a1_3, .int .i64 a1_4, .int .i64 a1_5, .int .i64 a1_6, .string a1_7]) ?_ 1 _ rfl; (with_reducible repeat (first | refine blk_drewN ?_ _ | refine blk_drew ?_ | refine blk_alloc ?_ _)); exact BK110.out)) : gb115 ≠ gb110)); have n12_ := Aside0.mk ((by rw [hg]; exact Nat.ne_of_lt (blk_lt (g := gb111) (o := .cells #[.int .i64 a2_0, .int .i64 a2_1, .int .i64 a2_2, .int .i64 a2_3, .int .i64 a2_4, .string a2_5, .int .i64 a2_6] 33 (0, 0)) (by (with_reducible repeat (first | refine blk_drewN ?_ _ | refine blk_drew ?_ | refine blk_alloc ?_ _)); refine blk_far ?_ NB111_110.out _; (with_reducible repeat (first | refine blk_drewN ?_ _ | refine blk_drew ?_ | refine blk_alloc ?_ _)); exact BK111.out)) : gb111 ≠ gb115)); have n13_ := Aside0.mk ((by rw [hg]; exact Nat.ne_of_gt (blk_lt (g := gb111) (o := .cells #[.int .i64 a2_0, .int .i64 a2_1, .int .i64 a2_2, .int .i64 a2_3, .int .i64 a2_4, .string a2_5, .int .i64 a2_6] 33 (0, 0)) (by (with_reducible repeat (first | refine blk_drewN ?_ _ | refine blk_drew ?_ | refine blk_alloc ?_ _)); refine blk_far ?_ NB111_110.out _; (with_reducible repeat (first | refine blk_drewN ?_ _ | refine blk_drew ?_ | refine blk_alloc ?_ _)); exact BK111.out)) : gb115 ≠ gb111)); have n14_ := Aside0.mk ((by rw [hg]; exact Nat.ne_of_lt (blk_lt (g := gb112) (o := .cells #[.int .i64 x113000_27, .int .i64 x113001_27, .int .i64 x113002_27, .int .i64 x113003_27, .int .i64 x113004_27, .int .i64 x113005_27, .int .i64 x113006_27, .string x113007_27] 28 (0, 0)) (by (with_reducible repeat (first | refine blk_drewN ?_ _ | refine blk_drew ?_ | refine blk_alloc ?_ _)); refine blk_far ?_ NB112_110.out _; (with_reducible repeat (first | refine blk_drewN ?_ _ | refine blk_drew ?_ | refine blk_alloc ?_ _)); exact BK112.out)) : gb112 ≠ gb115)); have n15_ := Aside0.mk ((by rw [hg]; exact Nat.ne_of_gt (blk_lt (g := gb112) (o := .cells #[.int .i64 x113000_27, .int .i64 x113001_27, .int .i64 x113002_27, .int .i64 x113003_27, .int .i64 x113004_27, .int .i64 x113005_27, .int .i64 x113006_27, .string x113007_27] 28 (0, 0)) (by (with_reducible repeat (first | refine blk_drewN ?_ _ | refine blk_drew ?_ | refine blk_alloc ?_ _)); refine blk_far ?_ NB112_110.out _; (with_reducible repeat (first | refine blk_drewN ?_ _ | refine blk_drew ?_ | refine blk_alloc ?_ _)); exact BK112.out)) : gb115 ≠ gb112)); clear BK109; clear BK110; clear BK111; clear BK112; clear HB; have BK109 := n0_; have BK110 := n1_; have BK111 := n2_; have BK112 := n3_; have HB := n4_; have BK115 := n5_; have GW115 := n6_; have GE115 := n7_; have NB109_115 := n8_; have NB115_109 := n9_; have NB110_115 := n10_; have NB115_110 := n11_; have NB111_115 := n12_; have NB115_111 := n13_; have NB112_115 := n14_; have NB115_112 := n15_; clear n0_ n1_ n2_ n3_ n4_ n5_ n6_ n7_ n8_ n9_ n10_ n11_ n12_ n13_ n14_ n15_; clear hb hbox hg; have hnb100 := NB115_109.out; have hnc100 := NB109_115.out; have hnb101 := NB115_110.out; have hnc101 := NB110_115.out; have hnb102 := NB115_111.out; have hnc102 := NB111_115.out; have hnb103 := NB115_112.out; have hnc103 := NB112_115.out; have hcz104_0 : w99.cell? ⟨gb115, 0, none⟩ = some (.int .i64 0) := (blk_cell BK115.out 0).trans rfl; have hcz104_1 : w99.cell? ⟨gb115, 1, none⟩ = some (.int .i64 0) := (blk_cell BK115.out 1).trans rfl; have hcz104_2 : w99.cell? ⟨gb115, 2, none⟩ = some (.int .i64 0) := (blk_cell BK115.out 2).trans rfl; have hcz104_3 : w99.cell? ⟨gb115, 3, none⟩ = some (.int .i64 0) := (blk_cell BK115.out 3).trans rfl; have hcz104_4 : w99.cell? ⟨gb115, 4, none⟩ = some (.int .i64 0) := (blk_cell BK115.out 4).trans rfl; have hcz104_5 : w99.cell? ⟨gb115, 5, none⟩ = some (.string (⟨#[]⟩ : ByteArray)) := (blk_cell BK115.out 5).trans rfl; have hcz104_6 : w99.cell? ⟨gb115, 6, none⟩ = some (.int .i64 0) := (blk_cell BK115.out 6).trans rfl; have hfz104_0 := blk_frozen BK115.out 0; have hfz104_1 := blk_frozen BK115.out 1; have hfz104_2 := blk_frozen BK115.out 2; have hfz104_3 := blk_frozen BK115.out 3; have hfz104_4 := blk_frozen BK115.out 4; have hfz104_5 := blk_frozen BK115.out 5; have hfz104_6 := blk_frozen BK115.out 6; have hcz105_0 : w99.cell? ⟨gb111, 0, none⟩ = some (.int .i64 a2_0) := (blk_cell BK111.out 0).trans rfl; have hcz105_1 : w99.cell? ⟨gb111, 1, none⟩ = some (.int .i64 a2_1) := (blk_cell BK111.out 1).trans rfl; have hcz105_2 : w99.cell? ⟨gb111, 2, none⟩ = some (.int .i64 a2_2) := (blk_cell BK111.out 2).trans rfl; have hcz105_3 : w99.cell? ⟨gb111, 3, none⟩ = some (.int .i64 a2_3) := (blk_cell BK111.out 3).trans rfl; have hcz105_4 : w99.cell? ⟨gb111, 4, none⟩ = some (.int .i64 a2_4) := (blk_cell BK111.out 4).trans rfl; have hcz105_5 : w99.cell? ⟨gb111, 5, none⟩ = some (.string a2_5) := (blk_cell BK111.out 5).trans rfl; have hcz105_6 : w99.cell? ⟨gb111, 6, none⟩ = some (.int .i64 a2_6) := (blk_cell BK111.out 6).trans rfl; have hfz105_0 := blk_frozen BK111.out 0; have hfz105_1 := blk_frozen BK111.out 1; have hfz105_2 := blk_frozen BK111.out 2; have hfz105_3 := blk_frozen BK111.out 3; have hfz105_4 := blk_frozen BK111.out 4; have hfz105_5 := blk_frozen BK111.out 5; have hfz105_6 := blk_frozen BK111.out 6; have hcz106_0 : w99.cell? ⟨gb110, 0, none⟩ = some (.int .i64 a1_0) := (blk_cell BK110.out 0).trans rfl; have hcz106_1 : w99.cell? ⟨gb110, 1, none⟩ = some (.int .i64 a2_1) := (blk_cell BK110.out 1).trans rfl; have hcz106_2 : w99.cell? ⟨gb110, 2, none⟩ = some (.int .i64 a1_2) := (blk_cell BK110.out 2).trans rfl; have hcz106_3 : w99.cell? ⟨gb110, 3, none⟩ = some (.int .i64 a1_3) := (blk_cell BK110.out 3).trans rfl; have hcz106_4 : w99.cell? ⟨gb110, 4, none⟩ = some (.int .i64 a1_4) := (blk_cell BK110.out 4).trans rfl; have hcz106_5 : w99.cell? ⟨gb110, 5, none⟩ = some (.int .i64 a1_5) := (blk_cell BK110.out 5).trans rfl; have hcz106_6 : w99.cell? ⟨gb110, 6, none⟩ = some (.int .i64 a1_6) := (blk_cell BK110.out 6).trans rfl; have hcz106_7 : w99.cell? ⟨gb110, 7, none⟩ = some (.string a1_7) := (blk_cell BK110.out 7).trans rfl; have hfz106_0 := blk_frozen BK110.out 0; have hfz106_1 := blk_frozen BK110.out 1; have hfz106_2 := blk_frozen BK110.out 2; have hfz106_3 := blk_frozen BK110.out 3; have hfz106_4 := blk_frozen BK110.out 4; have hfz106_5 := blk_frozen BK110.out 5; have hfz106_6 := blk_frozen BK110.out 6; have hfz106_7 := blk_frozen BK110.out 7; have hnb107 := NB109_112.out; have hnc107 := NB112_109.out; have hcz108_0 : w99.cell? ⟨gb109, 0, none⟩ = some (.int .i64 a0_0) := (blk_cell BK109.out 0).trans rfl; have hcz108_1 : w99.cell? ⟨gb109, 1, none⟩ = some (.bool a0_1) := (blk_cell BK109.out 1).trans rfl; have hfz108_0 := blk_frozen BK109.out 0; have hfz108_1 := blk_frozen BK109.out 1) | ((with_reducible refine gate_callee (f := 25) rfl ?_); refine goesL_ (some 54) rfl rfl Try.func25 (by kernel_rfl) rfl #[.agg #[.int .i64 a0_0, .bool a0_1], .int .i64 a1_3, .int .i64 a1_6, .int .i64 a2_3] rfl (by (try simp only [List.map_toArray, List.map_cons, List.map_nil]); first | done | rfl | (simp only [List.length_drop, List.length_take]; rfl)) ?_; (with_reducible refine (stuff_count.calls kj27 a0_0 a0_1 a1_3 a1_6 a2_3 t124 t125 _ A91.out).mono ?_); rintro e w109 ⟨rfl, hb⟩; refine ⟨_, rfl, ?_⟩; have n0_ := Aside0.mk (blk_below (g := gb109) (o := .cells #[.int .i64 a0_0, .bool a0_1] 23 (0, 0)) (by (with_reducible repeat (first | refine blk_drewN ?_ _ | refine blk_drew ?_ | refine blk_alloc ?_ _)); refine blk_far ?_ NB109_115.out _; (with_reducible repeat (first | refine blk_drewN ?_ _ | refine blk_drew ?_ | refine blk_alloc ?_ _)); refine blk_far ?_ NB109_115.out _; (with_reducible repeat (first | refine blk_drewN ?_ _ | refine blk_drew ?_ | refine blk_alloc ?_ _)); refine blk_far ?_ NB109_115.out _; (with_reducible repeat (first | refine blk_drewN ?_ _ | refine blk_drew ?_ | refine blk_alloc ?_ _)); refine blk_far ?_ NB109_115.out _; (with_reducible repeat (first | refine blk_drewN ?_ _ | refine blk_drew ?_ | refine blk_alloc ?_ _)); refine blk_far ?_ NB109_115.out _; (with_reducible repeat (first | refine blk_drewN ?_ _ | refine blk_drew ?_ | refine blk_alloc ?_ _)); refine blk_far ?_ NB109_115.out _; (with_reducible repeat (first | refine blk_drewN ?_ _ | refine blk_drew ?_ | refine blk_alloc ?_ _)); refine blk_far ?_ NB109_115.out _; (with_reducible repeat (first | refine blk_drewN ?_ _ | refine blk_drew ?_ | refine blk_alloc ?_ _)); exact BK109.out) hb); have n1_ := Aside0.mk (blk_below (g := gb110) (o := .cells #[.int .i64 a1_0, .int .i64 a2_1, .int .i64 a1_2, .int .i64 a1_3, .int .i64 a1_4, .int .i64 a1_5, .int .i64 a1_6, .string a1_7] 28 (0, 0)) (by (with_reducible repeat (first | refine blk_drewN ?_ _ | refine blk_drew ?_ | refine blk_alloc ?_ _)); refine blk_far ?_ NB110_115.out _; (with_reducible repeat (first | refine blk_drewN ?_ _ | refine blk_drew ?_ | refine blk_alloc ?_ _)); refine blk_far ?_ NB110_115.out _; (with_reducible repeat (first | refine blk_drewN ?_ _ | refine blk_drew ?_ | refine blk_alloc ?_ _)); refine blk_far ?_ NB110_115.out _; (with_reducible repeat (first | refine blk_drewN ?_ _ | refine blk_drew ?_ | refine blk_alloc ?_ _)); refine blk_far ?_ NB110_115.out _; (with_reducible repeat (first | refine blk_drewN ?_ _ | refine blk_drew ?_ | refine blk_alloc ?_ _)); refine blk_far ?_ NB110_115.out _; (with_reducible repeat (first | refine blk_drewN ?_ _ | refine blk_drew ?_ | refine blk_alloc ?_ _)); refine blk_far ?_ NB110_115.out _; (with_reducible repeat (first | refine blk_drewN ?_ _ | refine blk_drew ?_ | refine blk_alloc ?_ _)); refine blk_far ?_ NB110_115.out _; (with_reducible repeat (first | refine blk_drewN ?_ _ | refine blk_drew ?_ | refine blk_alloc ?_ _)); exact BK110.out) hb); have n2_ := Aside0.mk (blk_below (g := gb111) (o := .cells #[.int .i64 a2_0, .int .i64 a2_1, .int .i64 a2_2, .int .i64 a2_3, .int .i64 a2_4, .string a2_5, .int .i64 a2_6] 33 (0, 0)) (by (with_reducible repeat (first | refine blk_drewN ?_ _ | refine blk_drew ?_ | refine blk_alloc ?_ _)); refine blk_far ?_ NB111_115.out _; (with_reducible repeat (first | refine blk_drewN ?_ _ | refine blk_drew ?_ | refine blk_alloc ?_ _)); refine blk_far ?_ NB111_115.out _; (with_reducible repeat (first | refine blk_drewN ?_ _ | refine blk_drew ?_ | refine blk_alloc ?_ _)); refine blk_far ?_ NB111_115.out _; (with_reducible repeat (first | refine blk_drewN ?_ _ | refine blk_drew ?_ | refine blk_alloc ?_ _)); refine blk_far ?_ NB111_115.out _; (with_reducible repeat (first | refine blk_drewN ?_ _ | refine blk_drew ?_ | refine blk_alloc ?_ _)); refine blk_far ?_ NB111_115.out _; (with_reducible repeat (first | refine blk_drewN ?_ _ | refine blk_drew ?_ | refine blk_alloc ?_ _)); refine blk_far ?_ NB111_115.out _; (with_reducible repeat (first | refine blk_drewN ?_ _ | refine blk_drew ?_ | refine blk_alloc ?_ _)); refine blk_far ?_ NB111_115.out _; (with_reducible repeat (first | refine blk_drewN ?_ _ | refine blk_drew ?_ | refine blk_alloc ?_ _)); exact BK111.out) hb); have n3_ := Aside0.mk (blk_below (g := gb112) (o := .cells #[.int .i64 x113000_27, .int .i64 x113001_27, .int .i64 x113002_27, .int .i64 x113003_27, .int .i64 x113004_27, .int .i64 x113005_27, .int .i64 x113006_27, .string x113007_27] 28 (0, 0)) (by (with_reducible repeat (first | refine blk_drewN ?_ _ | refine blk_drew ?_ | refine blk_alloc ?_ _)); refine blk_far ?_ NB112_115.out _; (with_reducible repeat (first | refine blk_drewN ?_ _ | refine blk_drew ?_ | refine blk_alloc ?_ _)); refine blk_far ?_ NB112_115.out _; (with_reducible repeat (first | refine blk_drewN ?_ _ | refine blk_drew ?_ | refine blk_alloc ?_ _)); refine blk_far ?_ NB112_115.out _; (with_reducible repeat (first | refine blk_drewN ?_ _ | refine blk_drew ?_ | refine blk_alloc ?_ _)); refine blk_far ?_ NB112_115.out _; (with_reducible repeat (first | refine blk_drewN ?_ _ | refine blk_drew ?_ | refine blk_alloc ?_ _)); refine blk_far ?_ NB112_115.out _; (with_reducible repeat (first | refine blk_drewN ?_ _ | refine blk_drew ?_ | refine blk_alloc ?_ _)); refine blk_far ?_ NB112_115.out _; (with_reducible repeat (first | refine blk_drewN ?_ _ | refine blk_drew ?_ | refine blk_alloc ?_ _)); refine blk_far ?_ NB112_115.out _; (with_reducible repeat (first | refine blk_drewN ?_ _ | refine blk_drew ?_ | refine blk_alloc ?_ _)); exact BK112.out) hb); have n4_ := Aside0.mk (blk_below (g := gb115) (o := .cells #[.int .i64 2, .int .i64 a2_1, .int .i64 a2_2, .int .i64 a2_3, .int .i64 a2_4, .string (⟨#[]⟩ : ByteArray), .int .i64 a2_6] 33 (0, 0)) (by (with_reducible repeat (first | refine blk_drewN ?_ _ | refine blk_drew ?_ | refine blk_alloc ?_ _)); refine blk_put (cs := #[.int .i64 2, .int .i64 a2_1, .int .i64 a2_2, .int .i64 a2_3, .int .i64 a2_4, .string (⟨#[]⟩ : ByteArray), .int .i64 0]) ?_ 6 _ rfl; (with_reducible repeat (first | refine blk_drewN ?_ _ | refine blk_drew ?_ | refine blk_alloc ?_ _)); refine blk_put (cs := #[.int .i64 2, .int .i64 a2_1, .int .i64 a2_2, .int .i64 a2_3, .int .i64 a2_4, .string (⟨#[]⟩ : ByteArray), .int .i64 0]) ?_ 5 _ rfl; (with_reducible repeat (first | refine blk_drewN ?_ _ | refine blk_drew ?_ | refine blk_alloc ?_ _)); refine blk_put (cs := #[.int .i64 2, .int .i64 a2_1, .int .i64 a2_2, .int .i64 a2_3, .int .i64 0, .string (⟨#[]⟩ : ByteArray), .int .i64 0]) ?_ 4 _ rfl; (with_reducible repeat (first | refine blk_drewN ?_ _ | refine blk_drew ?_ | refine blk_alloc ?_ _)); refine blk_put (cs := #[.int .i64 2, .int .i64 a2_1, .int .i64 a2_2, .int .i64 0, .int .i64 0, .string (⟨#[]⟩ : ByteArray), .int .i64 0]) ?_ 3 _ rfl; (with_reducible repeat (first | refine blk_drewN ?_ _ | refine blk_drew ?_ | refine blk_alloc ?_ _)); refine blk_put (cs := #[.int .i64 2, .int .i64 a2_1, .int .i64 0, .int .i64 0, .int .i64 0, .string (⟨#[]⟩ : ByteArray), .int .i64 0]) ?_ 2 _ rfl; (with_reducible repeat (first | refine blk_drewN ?_ _ | refine blk_drew ?_ | refine blk_alloc ?_ _)); refine blk_put (cs := #[.int .i64 2, .int .i64 0, .int .i64 0, .int .i64 0, .int .i64 0, .string (⟨#[]⟩ : ByteArray), .int .i64 0]) ?_ 1 _ rfl; (with_reducible repeat (first | refine blk_drewN ?_ _ | refine blk_drew ?_ | refine blk_alloc ?_ _)); refine blk_put (cs := #[.int .i64 0, .int .i64 0, .int .i64 0, .int .i64 0, .int .i64 0, .string (⟨#[]⟩ : ByteArray), .int .i64 0]) ?_ 0 _ rfl; (with_reducible repeat (first | refine blk_drewN ?_ _ | refine blk_drew ?_ | refine blk_alloc ?_ _)); exact BK115.out) hb); have n5_ := Aside0.mk (below_step (hbw HB.out) hb); clear BK109; clear BK110; clear BK111; clear BK112; clear BK115; clear HB; have BK109 := n0_; have BK110 := n1_; have BK111 := n2_; have BK112 := n3_; have BK115 := n4_; have HB := n5_; clear n0_ n1_ n2_ n3_ n4_ n5_; (try clear hb); (try clear hb2); (try clear hk); (try clear hi); have hcz110_0 : w109.cell? ⟨gb110, 0, none⟩ = some (.int .i64 a1_0) := (blk_cell BK110.out 0).trans rfl; have hcz110_1 : w109.cell? ⟨gb110, 1, none⟩ = some (.int .i64 a2_1) := (blk_cell BK110.out 1).trans rfl; have hcz110_2 : w109.cell? ⟨gb110, 2, none⟩ = some (.int .i64 a1_2) := (blk_cell BK110.out 2).trans rfl; have hcz110_3 : w109.cell? ⟨gb110, 3, none⟩ = some (.int .i64 a1_3) := (blk_cell BK110.out 3).trans rfl; have hcz110_4 : w109.cell? ⟨gb110, 4, none⟩ = some (.int .i64 a1_4) := (blk_cell BK110.out 4).trans rfl; have hcz110_5 : w109.cell? ⟨gb110, 5, none⟩ = some (.int .i64 a1_5) := (blk_cell BK110.out 5).trans rfl; have hcz110_6 : w109.cell? ⟨gb110, 6, none⟩ = some (.int .i64 a1_6) := (blk_cell BK110.out 6).trans rfl; have hcz110_7 : w109.cell? ⟨gb110, 7, none⟩ = some (.string a1_7) := (blk_cell BK110.out 7).trans rfl; have hfz110_0 := blk_frozen BK110.out 0; have hfz110_1 := blk_frozen BK110.out 1; have hfz110_2 := blk_frozen BK110.out 2; have hfz110_3 := blk_frozen BK110.out 3; have hfz110_4 := blk_frozen BK110.out 4; have hfz110_5 := blk_frozen BK110.out 5; have hfz110_6 := blk_frozen BK110.out 6; have hfz110_7 := blk_frozen BK110.out 7))
       have n0_ : Aside0 (((w109.setCell ⟨gb110, 3, none⟩ (.int .i64 t124)).setCell ⟨gb110, 6, none⟩ (.int .i64 t125)).heap[gb109]? = some (.cells #[.int .i64 a0_0, .bool a0_1] 23 (0, 0))) := ⟨by (with_reducible repeat (first | refine blk_drewN ?_ _ | refine blk_drew ?_ | refine blk_alloc ?_ _)); refine blk_far ?_ NB109_110.out _; (with_reducible repeat (first | refine blk_drewN ?_ _ | refine blk_drew ?_ | refine blk_alloc ?_ _)); refine blk_far ?_ NB109_110.out _; (with_reducible repeat (first | refine blk_drewN ?_ _ | refine blk_drew ?_ | refine blk_alloc ?_ _)); exact BK109.out⟩
       have n1_ : Aside0 (((w109.setCell ⟨gb110, 3, none⟩ (.int .i64 t124)).setCell ⟨gb110, 6, none⟩ (.int .i64 t125)).heap[gb110]? = some (.cells #[.int .i64 a1_0, .int .i64 a2_1, .int .i64 a1_2, .int .i64 t124, .int .i64 a1_4, .int .i64 a1_5, .int .i64 t125, .string a1_7] 28 (0, 0))) := ⟨by (with_reducible repeat (first | refine blk_drewN ?_ _ | refine blk_drew ?_ | refine blk_alloc ?_ _)); refine blk_put (cs := #[.int .i64 a1_0, .int .i64 a2_1, .int .i64 a1_2, .int .i64 t124, .int .i64 a1_4, .int .i64 a1_5, .int .i64 a1_6, .string a1_7]) ?_ 6 _ rfl; (with_reducible repeat (first | refine blk_drewN ?_ _ | refine blk_drew ?_ | refine blk_alloc ?_ _)); refine blk_put (cs := #[.int .i64 a1_0, .int .i64 a2_1, .int .i64 a1_2, .int .i64 a1_3, .int .i64 a1_4, .int .i64 a1_5, .int .i64 a1_6, .string a1_7]) ?_ 3 _ rfl; (with_reducible repeat (first | refine blk_drewN ?_ _ | refine blk_drew ?_ | refine blk_alloc ?_ _)); exact BK110.out⟩
       have n2_ : Aside0 (((w109.setCell ⟨gb110, 3, none⟩ (.int .i64 t124)).setCell ⟨gb110, 6, none⟩ (.int .i64 t125)).heap[gb111]? = some (.cells #[.int .i64 a2_0, .int .i64 a2_1, .int .i64 a2_2, .int .i64 a2_3, .int .i64 a2_4, .string a2_5, .int .i64 a2_6] 33 (0, 0))) := ⟨by (with_reducible repeat (first | refine blk_drewN ?_ _ | refine blk_drew ?_ | refine blk_alloc ?_ _)); refine blk_far ?_ NB111_110.out _; (with_reducible repeat (first | refine blk_drewN ?_ _ | refine blk_drew ?_ | refine blk_alloc ?_ _)); refine blk_far ?_ NB111_110.out _; (with_reducible repeat (first | refine blk_drewN ?_ _ | refine blk_drew ?_ | refine blk_alloc ?_ _)); exact BK111.out⟩
       have n3_ : Aside0 (((w109.setCell ⟨gb110, 3, none⟩ (.int .i64 t124)).setCell ⟨gb110, 6, none⟩ (.int .i64 t125)).heap[gb112]? = some (.cells #[.int .i64 x113000_27, .int .i64 x113001_27, .int .i64 x113002_27, .int .i64 x113003_27, .int .i64 x113004_27, .int .i64 x113005_27, .int .i64 x113006_27, .string x113007_27] 28 (0, 0))) := ⟨by (with_reducible repeat (first | refine blk_drewN ?_ _ | refine blk_drew ?_ | refine blk_alloc ?_ _)); refine blk_far ?_ NB112_110.out _; (with_reducible repeat (first | refine blk_drewN ?_ _ | refine blk_drew ?_ | refine blk_alloc ?_ _)); refine blk_far ?_ NB112_110.out _; (with_reducible repeat (first | refine blk_drewN ?_ _ | refine blk_drew ?_ | refine blk_alloc ?_ _)); exact BK112.out⟩
       have n4_ : Aside0 (((w109.setCell ⟨gb110, 3, none⟩ (.int .i64 t124)).setCell ⟨gb110, 6, none⟩ (.int .i64 t125)).heap[gb115]? = some (.cells #[.int .i64 2, .int .i64 a2_1, .int .i64 a2_2, .int .i64 a2_3, .int .i64 a2_4, .string (⟨#[]⟩ : ByteArray), .int .i64 a2_6] 33 (0, 0))) := ⟨by (with_reducible repeat (first | refine blk_drewN ?_ _ | refine blk_drew ?_ | refine blk_alloc ?_ _)); refine blk_far ?_ NB115_110.out _; (with_reducible repeat (first | refine blk_drewN ?_ _ | refine blk_drew ?_ | refine blk_alloc ?_ _)); refine blk_far ?_ NB115_110.out _; (with_reducible repeat (first | refine blk_drewN ?_ _ | refine blk_drew ?_ | refine blk_alloc ?_ _)); exact BK115.out⟩
       have n5_ : Aside0 (Below w.heap.size w ((w109.setCell ⟨gb110, 3, none⟩ (.int .i64 t124)).setCell ⟨gb110, 6, none⟩ (.int .i64 t125))) := ⟨by repeat (first | (with_reducible first | exact HB.out | apply below_alloc | apply pw_below_drewN | apply below_drew1 | refine below_set ?_ GE109.out | refine below_set ?_ GE110.out | refine below_set ?_ GE111.out | refine below_set ?_ GE112.out | refine below_set ?_ GE115.out) | exact HB.out)⟩
       (try clear BK109)
       (try clear BK110)
       (try clear BK111)
       (try clear BK112)
       (try clear BK115)
       (try clear HB)
       generalize ((w109.setCell ⟨gb110, 3, none⟩ (.int .i64 t124)).setCell ⟨gb110, 6, none⟩ (.int .i64 t125)) = w111 at n0_ n1_ n2_ n3_ n4_ n5_ ⊢
       have BK109 := n0_
       have BK110 := n1_
       have BK111 := n2_
       have BK112 := n3_
       have BK115 := n4_
       have HB := n5_
       clear n0_ n1_ n2_ n3_ n4_ n5_
       have n0_ := Aside0.mk (blk_drew BK109.out)
       have n1_ := Aside0.mk (blk_drew BK110.out)
       have n2_ := Aside0.mk (blk_drew BK111.out)
       have n3_ := Aside0.mk (blk_drew BK112.out)
       have n4_ := Aside0.mk (blk_drew BK115.out)
       have n5_ := Aside0.mk (below_drew1 HB.out)
       clear BK109
       clear BK110
       clear BK111
       clear BK112
       clear BK115
       clear HB
       have BK109 := n0_
       have BK110 := n1_
       have BK111 := n2_
       have BK112 := n3_
       have BK115 := n4_
       have HB := n5_
       clear n0_ n1_ n2_ n3_ n4_ n5_
       refine start_ (n := 5) (S := fun w' => True) (ds := []) #[false, false, false, false, false] (by kernel_rfl) rfl rfl trivial (fun hHeld => ?_); refine with_tabW stuff_Step.tab10 stuff_Step.bits10 (fun HT_ HW_ => ?_)
       generalize w111.drew = w112 at BK109 BK110 BK111 BK112 BK115 HB hHeld ⊢
       refine inv_at [0, 1, 2, 3, 4] (fun a0_ b a w' => ∃ (v127 : Value) (m4_ : Value), a = putSel a0_ b [(0, 59, .agg #[.int .i64 a1_0, .int .i64 a2_1, .int .i64 a1_2, .int .i64 t124, .int .i64 a1_4, .int .i64 a1_5, .int .i64 t125, .string a1_7]), (1, 60, .agg #[.int .i64 2, .int .i64 a2_1, .int .i64 a2_2, .int .i64 a2_3, .int .i64 a2_4, .string (⟨#[]⟩ : ByteArray), .int .i64 a2_6]), (2, 61, v127), (4, 7, m4_)] ∧ (w'.heap[gb109]? = some (.cells #[.int .i64 a0_0, .bool a0_1] 23 (0, 0))) ∧ (w'.heap[gb110]? = some (.cells #[.int .i64 a1_0, .int .i64 a2_1, .int .i64 a1_2, .int .i64 t124, .int .i64 a1_4, .int .i64 a1_5, .int .i64 t125, .string a1_7] 28 (0, 0))) ∧ (w'.heap[gb111]? = some (.cells #[.int .i64 a2_0, .int .i64 a2_1, .int .i64 a2_2, .int .i64 a2_3, .int .i64 a2_4, .string a2_5, .int .i64 a2_6] 33 (0, 0))) ∧ (b 3 = false → w'.heap[gb112]? = some (.cells #[.int .i64 x113000_27, .int .i64 x113001_27, .int .i64 x113002_27, .int .i64 x113003_27, .int .i64 x113004_27, .int .i64 x113005_27, .int .i64 x113006_27, .string x113007_27] 28 (0, 0))) ∧ (w'.heap[gb115]? = some (.cells #[.int .i64 2, .int .i64 a2_1, .int .i64 a2_2, .int .i64 a2_3, .int .i64 a2_4, .string (⟨#[]⟩ : ByteArray), .int .i64 a2_6] 33 (0, 0))) ∧ (Below w.heap.size w w') ∧ (b 2 = true → Kd.R k33 33 w' w.heap.size (fun k_ => k_ ≠ gb111 ∧ k_ ≠ gb115) v127 y126) ∧ (b 3 = true → w'.heap[gb112]? = some (.cells #[.int .i64 a1_0, .int .i64 a2_1, .int .i64 a1_2, .int .i64 t124, .int .i64 a1_4, .int .i64 a1_5, .int .i64 t125, .string a1_7] 28 (0, 0))) ∧ (b 4 = true → (m4_ : Value) = v127)) HT_.out HW_.out (by kernel_rfl) (by kernel_rfl) ?_ ?_ ?_
       ·exact ⟨.bool false, .bool false, by simp only [putSel, Bool.false_eq_true, if_false], BK109.out, BK110.out, BK111.out, fun _ => BK112.out, BK115.out, HB.out, fun h_ => absurd h_ (by decide), fun h_ => absurd h_ (by decide), fun h_ => absurd h_ (by decide)⟩
       ·skip
        clear BK109 BK110 BK111 BK112 BK115 HB
        refine steps_cons ?_ ?_
        ·rintro b a w' ⟨v127, m4_, ha, Q_BK109, Q_BK110, Q_BK111, Q_BK112, Q_BK115, Q_HB, Q_HO128, Q_BK112_e3, Q_X4_⟩ hb_ hon hoff
         refine ⟨_, rfl, fun K hK => ?_⟩
         have e4 : a.tmps[4]? = some (.pointer (some ⟨gb110, 0, none⟩)) := by rw [ha]; exact (putSel_off rfl).trans rfl
         replace ha := Aside0.mk ha
         have BK109 := Aside0.mk Q_BK109
         have BK110 := Aside0.mk Q_BK110
         have BK111 := Aside0.mk Q_BK111
         have BK112 := Aside0.mk (Q_BK112 (hoff 3 (by kernel_rfl)))
         have BK115 := Aside0.mk Q_BK115
         have HB := Aside0.mk Q_HB
         have hc0_ : w'.cell? ⟨gb110, 0, none⟩ = some (.int .i64 a1_0) := (blk_cell BK110.out 0).trans rfl
         have hc1_ : w'.cell? ⟨gb110, 1, none⟩ = some (.int .i64 a2_1) := (blk_cell BK110.out 1).trans rfl
         have hc2_ : w'.cell? ⟨gb110, 2, none⟩ = some (.int .i64 a1_2) := (blk_cell BK110.out 2).trans rfl
         have hc3_ : w'.cell? ⟨gb110, 3, none⟩ = some (.int .i64 t124) := (blk_cell BK110.out 3).trans rfl
         have hc4_ : w'.cell? ⟨gb110, 4, none⟩ = some (.int .i64 a1_4) := (blk_cell BK110.out 4).trans rfl
         have hc5_ : w'.cell? ⟨gb110, 5, none⟩ = some (.int .i64 a1_5) := (blk_cell BK110.out 5).trans rfl
         have hc6_ : w'.cell? ⟨gb110, 6, none⟩ = some (.int .i64 t125) := (blk_cell BK110.out 6).trans rfl
         have hc7_ : w'.cell? ⟨gb110, 7, none⟩ = some (.string a1_7) := (blk_cell BK110.out 7).trans rfl
         refine value_ (w1 := w') (v := .agg #[.int .i64 a1_0, .int .i64 a2_1, .int .i64 a1_2, .int .i64 t124, .int .i64 a1_4, .int .i64 a1_5, .int .i64 t125, .string a1_7]) (by rfl) rfl ?_ ?_
         ·go_simp
          (try simp only [i64_w, u8_w, u32_w, w64_m8, w64_m32])
          try rfl
         refine hK.out _ _ ⟨v127, m4_, (by rw [ha.out]; exact putSel_upk 0 hb_ rfl rfl rfl), Q_BK109, Q_BK110, Q_BK111, Q_BK112, Q_BK115, Q_HB, Q_HO128, fun h0_ => absurd ((hoff 3 (by kernel_rfl)).symm.trans h0_) (by decide), fun h0_ => absurd ((hoff 4 (by kernel_rfl)).symm.trans h0_) (by decide)⟩
        refine steps_cons ?_ ?_
        ·rintro b a w' ⟨v127, m4_, ha, Q_BK109, Q_BK110, Q_BK111, Q_BK112, Q_BK115, Q_HB, Q_HO128, Q_BK112_e3, Q_X4_⟩ hb_ hon hoff
         refine ⟨_, rfl, fun K hK => ?_⟩
         have e8 : a.tmps[8]? = some (.pointer (some ⟨gb115, 0, none⟩)) := by rw [ha]; exact (putSel_off rfl).trans rfl
         replace ha := Aside0.mk ha
         have BK109 := Aside0.mk Q_BK109
         have BK110 := Aside0.mk Q_BK110
         have BK111 := Aside0.mk Q_BK111
         have BK115 := Aside0.mk Q_BK115
         have HB := Aside0.mk Q_HB
         have hc0_ : w'.cell? ⟨gb115, 0, none⟩ = some (.int .i64 2) := (blk_cell BK115.out 0).trans rfl
         have hc1_ : w'.cell? ⟨gb115, 1, none⟩ = some (.int .i64 a2_1) := (blk_cell BK115.out 1).trans rfl
         have hc2_ : w'.cell? ⟨gb115, 2, none⟩ = some (.int .i64 a2_2) := (blk_cell BK115.out 2).trans rfl
         have hc3_ : w'.cell? ⟨gb115, 3, none⟩ = some (.int .i64 a2_3) := (blk_cell BK115.out 3).trans rfl
         have hc4_ : w'.cell? ⟨gb115, 4, none⟩ = some (.int .i64 a2_4) := (blk_cell BK115.out 4).trans rfl
         have hc5_ : w'.cell? ⟨gb115, 5, none⟩ = some (.string (⟨#[]⟩ : ByteArray)) := (blk_cell BK115.out 5).trans rfl
         have hc6_ : w'.cell? ⟨gb115, 6, none⟩ = some (.int .i64 a2_6) := (blk_cell BK115.out 6).trans rfl
         refine value_ (w1 := w') (v := .agg #[.int .i64 2, .int .i64 a2_1, .int .i64 a2_2, .int .i64 a2_3, .int .i64 a2_4, .string (⟨#[]⟩ : ByteArray), .int .i64 a2_6]) (by rfl) rfl ?_ ?_
         ·go_simp
          (try simp only [i64_w, u8_w, u32_w, w64_m8, w64_m32])
          try rfl
         refine hK.out _ _ ⟨v127, m4_, (by rw [ha.out]; exact putSel_upk 1 hb_ rfl rfl rfl), Q_BK109, Q_BK110, Q_BK111, Q_BK112, Q_BK115, Q_HB, fun h0_ => absurd ((hoff 2 (by kernel_rfl)).symm.trans h0_) (by decide), Q_BK112_e3, fun h0_ => absurd ((hoff 4 (by kernel_rfl)).symm.trans h0_) (by decide)⟩
        refine steps_cons ?_ ?_
        ·rintro b a w' ⟨v127, m4_, ha, Q_BK109, Q_BK110, Q_BK111, Q_BK112, Q_BK115, Q_HB, Q_HO128, Q_BK112_e3, Q_X4_⟩ hb_ hon hoff
         refine ⟨_, rfl, fun K hK => ?_⟩
         have e60 : a.tmps[60]? = some (.agg #[.int .i64 2, .int .i64 a2_1, .int .i64 a2_2, .int .i64 a2_3, .int .i64 a2_4, .string (⟨#[]⟩ : ByteArray), .int .i64 a2_6]) := by rw [ha]; exact putSel_on (e := (1, 60, .agg #[.int .i64 2, .int .i64 a2_1, .int .i64 a2_2, .int .i64 a2_3, .int .i64 a2_4, .string (⟨#[]⟩ : ByteArray), .int .i64 a2_6])) 1 rfl rfl (hon 1 (by kernel_rfl)) rfl
         replace ha := Aside0.mk ha
         have BK109 := Aside0.mk Q_BK109
         have BK110 := Aside0.mk Q_BK110
         have BK111 := Aside0.mk Q_BK111
         have BK115 := Aside0.mk Q_BK115
         have HB := Aside0.mk Q_HB
         refine Kd.R_lit_step k33 _ 33 ?hg (N := 61) ?hd (xs := ([(⟨2, a2_1, a2_2, a2_3, a2_4, (⟨#[]⟩ : ByteArray), a2_6⟩ : S33)] : List (S33))) (inner := [.int .i64 2, .int .i64 a2_1, .int .i64 a2_2, .int .i64 a2_3, .int .i64 a2_4, .string (⟨#[]⟩ : ByteArray), .int .i64 a2_6]) (ok := fun _ => True) (okp := fun _ => True) ?hr ?hp (fun _ hk => hk) trivial (Below.refl _ _) (Nat.le_refl _) (by simp) ?_; (case hd => rfl); (case hg => rfl); (case hr => first | (go_simp; done) | (go_simp; rfl)); (case hp => exact (Reps.c7 (show Kd.M k33 _ _ _ (⟨2, a2_1, a2_2, a2_3, a2_4, (⟨#[]⟩ : ByteArray), a2_6⟩ : S33) [.int .i64 2, .int .i64 a2_1, .int .i64 a2_2, .int .i64 a2_3, .int .i64 a2_4, .string (⟨#[]⟩ : ByteArray), .int .i64 a2_6] from (k33_mkM _ _ _ (⟨2, a2_1, a2_2, a2_3, a2_4, (⟨#[]⟩ : ByteArray), a2_6⟩ : S33) )) (Reps.none _ _)))
         intro v127 w113 ho114 hb hg_ hnew_
         clear hg_ hnew_
         (first | rw [← Ny126.out] at ho114 | (simp only [Int.reduceToNat] at ho114; rw [← Ny126.out] at ho114))
         have n0_ := Aside0.mk (Kd.R_lower (Kd.R_newB (Kd.R_newB ho114 (g := gb111) (o := .cells #[.int .i64 a2_0, .int .i64 a2_1, .int .i64 a2_2, .int .i64 a2_3, .int .i64 a2_4, .string a2_5, .int .i64 a2_6] 33 (0, 0)) (bkw BK111.out)) (g := gb115) (o := .cells #[.int .i64 2, .int .i64 a2_1, .int .i64 a2_2, .int .i64 a2_3, .int .i64 a2_4, .string (⟨#[]⟩ : ByteArray), .int .i64 a2_6] 33 (0, 0)) (bkw BK115.out)) (below_size (hbw HB.out)))
         have n1_ := Aside0.mk (blkb BK109.out hb)
         have n2_ := Aside0.mk (blkb BK110.out hb)
         have n3_ := Aside0.mk (blkb BK111.out hb)
         have n5_ := Aside0.mk (blkb BK115.out hb)
         have n6_ := Aside0.mk (below_step (hbw HB.out) hb)
         have z_BK112 := fun (h0_ : b 3 = false) => (show w113.heap[gb112]? = some (.cells #[.int .i64 x113000_27, .int .i64 x113001_27, .int .i64 x113002_27, .int .i64 x113003_27, .int .i64 x113004_27, .int .i64 x113005_27, .int .i64 x113006_27, .string x113007_27] 28 (0, 0)) from by first | exact (blk_below (g := gb112) (o := .cells #[.int .i64 x113000_27, .int .i64 x113001_27, .int .i64 x113002_27, .int .i64 x113003_27, .int .i64 x113004_27, .int .i64 x113005_27, .int .i64 x113006_27, .string x113007_27] 28 (0, 0)) (by (with_reducible repeat (first | refine blk_drewN ?_ _ | refine blk_drew ?_ | refine blk_alloc ?_ _)); exact (Q_BK112 h0_)) hb))
         have z_BK112_e3 := fun (h0_ : b 3 = true) => (show w113.heap[gb112]? = some (.cells #[.int .i64 a1_0, .int .i64 a2_1, .int .i64 a1_2, .int .i64 t124, .int .i64 a1_4, .int .i64 a1_5, .int .i64 t125, .string a1_7] 28 (0, 0)) from by first | exact (blk_below (g := gb112) (o := .cells #[.int .i64 a1_0, .int .i64 a2_1, .int .i64 a1_2, .int .i64 t124, .int .i64 a1_4, .int .i64 a1_5, .int .i64 t125, .string a1_7] 28 (0, 0)) (by (with_reducible repeat (first | refine blk_drewN ?_ _ | refine blk_drew ?_ | refine blk_alloc ?_ _)); exact (Q_BK112_e3 h0_)) hb))
         clear BK109
         clear BK110
         clear BK111
         clear BK115
         clear HB
         have HO128 := n0_
         have BK109 := n1_
         have BK110 := n2_
         have BK111 := n3_
         have BK115 := n5_
         have HB := n6_
         clear n0_ n1_ n2_ n3_ n5_ n6_
         clear hb ho114
         refine hK.out _ _ ⟨v127, m4_, (by rw [ha.out]; exact putSel_upk 2 hb_ rfl rfl rfl), (bkw BK109.out), (bkw BK110.out), (bkw BK111.out), z_BK112, (bkw BK115.out), (hbw HB.out), fun _ => (by (with_reducible repeat (first | apply Kd.R_alloc | apply Kd.R_drewN | apply Kd.R_drew)); exact Kd.R_mono HO128.out (fun _ hk => ⟨hk.1.2, hk.2⟩)), z_BK112_e3, fun h0_ => absurd ((hoff 4 (by kernel_rfl)).symm.trans h0_) (by decide)⟩
        refine steps_cons ?_ ?_
        ·rintro b a w' ⟨v127, m4_, ha, Q_BK109, Q_BK110, Q_BK111, Q_BK112, Q_BK115, Q_HB, Q_HO128, Q_BK112_e3, Q_X4_⟩ hb_ hon hoff
         refine ⟨_, rfl, fun K hK => ?_⟩
         have e6 : a.tmps[6]? = some (.pointer (some ⟨gb112, 0, none⟩)) := by rw [ha]; exact (putSel_off rfl).trans rfl
         have e59 : a.tmps[59]? = some (.agg #[.int .i64 a1_0, .int .i64 a2_1, .int .i64 a1_2, .int .i64 t124, .int .i64 a1_4, .int .i64 a1_5, .int .i64 t125, .string a1_7]) := by rw [ha]; exact putSel_on (e := (0, 59, .agg #[.int .i64 a1_0, .int .i64 a2_1, .int .i64 a1_2, .int .i64 t124, .int .i64 a1_4, .int .i64 a1_5, .int .i64 t125, .string a1_7])) 0 rfl rfl (hon 0 (by kernel_rfl)) rfl
         replace ha := Aside0.mk ha
         have BK109 := Aside0.mk Q_BK109
         have BK110 := Aside0.mk Q_BK110
         have BK111 := Aside0.mk Q_BK111
         have BK112 := Aside0.mk (Q_BK112 hb_)
         have BK115 := Aside0.mk Q_BK115
         have HB := Aside0.mk Q_HB
         have hs113 : w'.cell? ⟨gb112, 0, none⟩ = some (.int .i64 x113000_27) := (blk_cell BK112.out 0).trans rfl
         have hfs113 := blk_frozen BK112.out 0
         have hns113_0 := NB109_112.out
         have hns113_1 := NB110_112.out
         have hns113_2 := NB111_112.out
         have hns113_4 := NB115_112.out
         have hms113_0 := NB112_109.out
         have hms113_1 := NB112_110.out
         have hms113_2 := NB112_111.out
         have hms113_4 := NB112_115.out
         have hs114 : w'.cell? ⟨gb112, 1, none⟩ = some (.int .i64 x113001_27) := (blk_cell BK112.out 1).trans rfl
         have hfs114 := blk_frozen BK112.out 1
         have hns114_0 := NB109_112.out
         have hns114_1 := NB110_112.out
         have hns114_2 := NB111_112.out
         have hns114_4 := NB115_112.out
         have hms114_0 := NB112_109.out
         have hms114_1 := NB112_110.out
         have hms114_2 := NB112_111.out
         have hms114_4 := NB112_115.out
         have hs115 : w'.cell? ⟨gb112, 2, none⟩ = some (.int .i64 x113002_27) := (blk_cell BK112.out 2).trans rfl
         have hfs115 := blk_frozen BK112.out 2
         have hns115_0 := NB109_112.out
         have hns115_1 := NB110_112.out
         have hns115_2 := NB111_112.out
         have hns115_4 := NB115_112.out
         have hms115_0 := NB112_109.out
         have hms115_1 := NB112_110.out
         have hms115_2 := NB112_111.out
         have hms115_4 := NB112_115.out
         have hs116 : w'.cell? ⟨gb112, 3, none⟩ = some (.int .i64 x113003_27) := (blk_cell BK112.out 3).trans rfl
         have hfs116 := blk_frozen BK112.out 3
         have hns116_0 := NB109_112.out
         have hns116_1 := NB110_112.out
         have hns116_2 := NB111_112.out
         have hns116_4 := NB115_112.out
         have hms116_0 := NB112_109.out
         have hms116_1 := NB112_110.out
         have hms116_2 := NB112_111.out
         have hms116_4 := NB112_115.out
         have hs117 : w'.cell? ⟨gb112, 4, none⟩ = some (.int .i64 x113004_27) := (blk_cell BK112.out 4).trans rfl
         have hfs117 := blk_frozen BK112.out 4
         have hns117_0 := NB109_112.out
         have hns117_1 := NB110_112.out
         have hns117_2 := NB111_112.out
         have hns117_4 := NB115_112.out
         have hms117_0 := NB112_109.out
         have hms117_1 := NB112_110.out
         have hms117_2 := NB112_111.out
         have hms117_4 := NB112_115.out
         have hs118 : w'.cell? ⟨gb112, 5, none⟩ = some (.int .i64 x113005_27) := (blk_cell BK112.out 5).trans rfl
         have hfs118 := blk_frozen BK112.out 5
         have hns118_0 := NB109_112.out
         have hns118_1 := NB110_112.out
         have hns118_2 := NB111_112.out
         have hns118_4 := NB115_112.out
         have hms118_0 := NB112_109.out
         have hms118_1 := NB112_110.out
         have hms118_2 := NB112_111.out
         have hms118_4 := NB112_115.out
         have hs119 : w'.cell? ⟨gb112, 6, none⟩ = some (.int .i64 x113006_27) := (blk_cell BK112.out 6).trans rfl
         have hfs119 := blk_frozen BK112.out 6
         have hns119_0 := NB109_112.out
         have hns119_1 := NB110_112.out
         have hns119_2 := NB111_112.out
         have hns119_4 := NB115_112.out
         have hms119_0 := NB112_109.out
         have hms119_1 := NB112_110.out
         have hms119_2 := NB112_111.out
         have hms119_4 := NB112_115.out
         have hs120 : w'.cell? ⟨gb112, 7, none⟩ = some (.string x113007_27) := (blk_cell BK112.out 7).trans rfl
         have hfs120 := blk_frozen BK112.out 7
         have hns120_0 := NB109_112.out
         have hns120_1 := NB110_112.out
         have hns120_2 := NB111_112.out
         have hns120_4 := NB115_112.out
         have hms120_0 := NB112_109.out
         have hms120_1 := NB112_110.out
         have hms120_2 := NB112_111.out
         have hms120_4 := NB112_115.out
         refine skip_ (w1 := ?_) (by rfl) rfl ?_ ?_
         rotate_left
         ·go_simp
          rfl
         refine hK.out _ _ ⟨v127, m4_, (by rw [ha.out]; exact putSel_none (v := undef) rfl), (by (with_reducible repeat (first | refine blk_drewN ?_ _ | refine blk_drew ?_ | refine blk_alloc ?_ _)); refine blk_far ?_ NB109_112.out _; (with_reducible repeat (first | refine blk_drewN ?_ _ | refine blk_drew ?_ | refine blk_alloc ?_ _)); refine blk_far ?_ NB109_112.out _; (with_reducible repeat (first | refine blk_drewN ?_ _ | refine blk_drew ?_ | refine blk_alloc ?_ _)); refine blk_far ?_ NB109_112.out _; (with_reducible repeat (first | refine blk_drewN ?_ _ | refine blk_drew ?_ | refine blk_alloc ?_ _)); refine blk_far ?_ NB109_112.out _; (with_reducible repeat (first | refine blk_drewN ?_ _ | refine blk_drew ?_ | refine blk_alloc ?_ _)); refine blk_far ?_ NB109_112.out _; (with_reducible repeat (first | refine blk_drewN ?_ _ | refine blk_drew ?_ | refine blk_alloc ?_ _)); refine blk_far ?_ NB109_112.out _; (with_reducible repeat (first | refine blk_drewN ?_ _ | refine blk_drew ?_ | refine blk_alloc ?_ _)); refine blk_far ?_ NB109_112.out _; (with_reducible repeat (first | refine blk_drewN ?_ _ | refine blk_drew ?_ | refine blk_alloc ?_ _)); refine blk_far ?_ NB109_112.out _; (with_reducible repeat (first | refine blk_drewN ?_ _ | refine blk_drew ?_ | refine blk_alloc ?_ _)); exact BK109.out), (by (with_reducible repeat (first | refine blk_drewN ?_ _ | refine blk_drew ?_ | refine blk_alloc ?_ _)); refine blk_far ?_ NB110_112.out _; (with_reducible repeat (first | refine blk_drewN ?_ _ | refine blk_drew ?_ | refine blk_alloc ?_ _)); refine blk_far ?_ NB110_112.out _; (with_reducible repeat (first | refine blk_drewN ?_ _ | refine blk_drew ?_ | refine blk_alloc ?_ _)); refine blk_far ?_ NB110_112.out _; (with_reducible repeat (first | refine blk_drewN ?_ _ | refine blk_drew ?_ | refine blk_alloc ?_ _)); refine blk_far ?_ NB110_112.out _; (with_reducible repeat (first | refine blk_drewN ?_ _ | refine blk_drew ?_ | refine blk_alloc ?_ _)); refine blk_far ?_ NB110_112.out _; (with_reducible repeat (first | refine blk_drewN ?_ _ | refine blk_drew ?_ | refine blk_alloc ?_ _)); refine blk_far ?_ NB110_112.out _; (with_reducible repeat (first | refine blk_drewN ?_ _ | refine blk_drew ?_ | refine blk_alloc ?_ _)); refine blk_far ?_ NB110_112.out _; (with_reducible repeat (first | refine blk_drewN ?_ _ | refine blk_drew ?_ | refine blk_alloc ?_ _)); refine blk_far ?_ NB110_112.out _; (with_reducible repeat (first | refine blk_drewN ?_ _ | refine blk_drew ?_ | refine blk_alloc ?_ _)); exact BK110.out), (by (with_reducible repeat (first | refine blk_drewN ?_ _ | refine blk_drew ?_ | refine blk_alloc ?_ _)); refine blk_far ?_ NB111_112.out _; (with_reducible repeat (first | refine blk_drewN ?_ _ | refine blk_drew ?_ | refine blk_alloc ?_ _)); refine blk_far ?_ NB111_112.out _; (with_reducible repeat (first | refine blk_drewN ?_ _ | refine blk_drew ?_ | refine blk_alloc ?_ _)); refine blk_far ?_ NB111_112.out _; (with_reducible repeat (first | refine blk_drewN ?_ _ | refine blk_drew ?_ | refine blk_alloc ?_ _)); refine blk_far ?_ NB111_112.out _; (with_reducible repeat (first | refine blk_drewN ?_ _ | refine blk_drew ?_ | refine blk_alloc ?_ _)); refine blk_far ?_ NB111_112.out _; (with_reducible repeat (first | refine blk_drewN ?_ _ | refine blk_drew ?_ | refine blk_alloc ?_ _)); refine blk_far ?_ NB111_112.out _; (with_reducible repeat (first | refine blk_drewN ?_ _ | refine blk_drew ?_ | refine blk_alloc ?_ _)); refine blk_far ?_ NB111_112.out _; (with_reducible repeat (first | refine blk_drewN ?_ _ | refine blk_drew ?_ | refine blk_alloc ?_ _)); refine blk_far ?_ NB111_112.out _; (with_reducible repeat (first | refine blk_drewN ?_ _ | refine blk_drew ?_ | refine blk_alloc ?_ _)); exact BK111.out), fun h0_ => absurd ((up_self b 3).symm.trans h0_) (by decide), (by (with_reducible repeat (first | refine blk_drewN ?_ _ | refine blk_drew ?_ | refine blk_alloc ?_ _)); refine blk_far ?_ NB115_112.out _; (with_reducible repeat (first | refine blk_drewN ?_ _ | refine blk_drew ?_ | refine blk_alloc ?_ _)); refine blk_far ?_ NB115_112.out _; (with_reducible repeat (first | refine blk_drewN ?_ _ | refine blk_drew ?_ | refine blk_alloc ?_ _)); refine blk_far ?_ NB115_112.out _; (with_reducible repeat (first | refine blk_drewN ?_ _ | refine blk_drew ?_ | refine blk_alloc ?_ _)); refine blk_far ?_ NB115_112.out _; (with_reducible repeat (first | refine blk_drewN ?_ _ | refine blk_drew ?_ | refine blk_alloc ?_ _)); refine blk_far ?_ NB115_112.out _; (with_reducible repeat (first | refine blk_drewN ?_ _ | refine blk_drew ?_ | refine blk_alloc ?_ _)); refine blk_far ?_ NB115_112.out _; (with_reducible repeat (first | refine blk_drewN ?_ _ | refine blk_drew ?_ | refine blk_alloc ?_ _)); refine blk_far ?_ NB115_112.out _; (with_reducible repeat (first | refine blk_drewN ?_ _ | refine blk_drew ?_ | refine blk_alloc ?_ _)); refine blk_far ?_ NB115_112.out _; (with_reducible repeat (first | refine blk_drewN ?_ _ | refine blk_drew ?_ | refine blk_alloc ?_ _)); exact BK115.out), (hbw HB.out), fun h0_ => (by (with_reducible repeat (first | apply Kd.R_alloc | apply Kd.R_drewN | apply Kd.R_drew)); exact Kd.R_mono (Kd.R_far (p := ⟨gb112, 7, none⟩) (Kd.R_far (p := ⟨gb112, 6, none⟩) (Kd.R_far (p := ⟨gb112, 5, none⟩) (Kd.R_far (p := ⟨gb112, 4, none⟩) (Kd.R_far (p := ⟨gb112, 3, none⟩) (Kd.R_far (p := ⟨gb112, 2, none⟩) (Kd.R_far (p := ⟨gb112, 1, none⟩) (Kd.R_far (p := ⟨gb112, 0, none⟩) (Kd.R_types (Q_HO128 h0_) BK112.out (by decide)) (fun _ hk => hk.2) (.int .i64 a1_0)) (fun _ hk => hk.2) (.int .i64 a2_1)) (fun _ hk => hk.2) (.int .i64 a1_2)) (fun _ hk => hk.2) (.int .i64 t124)) (fun _ hk => hk.2) (.int .i64 a1_4)) (fun _ hk => hk.2) (.int .i64 a1_5)) (fun _ hk => hk.2) (.int .i64 t125)) (fun _ hk => hk.2) (.string a1_7)) (fun _ hk => ⟨hk.1.1, hk.1.2⟩)), fun _ => (by (with_reducible repeat (first | refine blk_drewN ?_ _ | refine blk_drew ?_ | refine blk_alloc ?_ _)); refine blk_put (cs := #[.int .i64 a1_0, .int .i64 a2_1, .int .i64 a1_2, .int .i64 t124, .int .i64 a1_4, .int .i64 a1_5, .int .i64 t125, .string x113007_27]) ?_ 7 _ rfl; (with_reducible repeat (first | refine blk_drewN ?_ _ | refine blk_drew ?_ | refine blk_alloc ?_ _)); refine blk_put (cs := #[.int .i64 a1_0, .int .i64 a2_1, .int .i64 a1_2, .int .i64 t124, .int .i64 a1_4, .int .i64 a1_5, .int .i64 x113006_27, .string x113007_27]) ?_ 6 _ rfl; (with_reducible repeat (first | refine blk_drewN ?_ _ | refine blk_drew ?_ | refine blk_alloc ?_ _)); refine blk_put (cs := #[.int .i64 a1_0, .int .i64 a2_1, .int .i64 a1_2, .int .i64 t124, .int .i64 a1_4, .int .i64 x113005_27, .int .i64 x113006_27, .string x113007_27]) ?_ 5 _ rfl; (with_reducible repeat (first | refine blk_drewN ?_ _ | refine blk_drew ?_ | refine blk_alloc ?_ _)); refine blk_put (cs := #[.int .i64 a1_0, .int .i64 a2_1, .int .i64 a1_2, .int .i64 t124, .int .i64 x113004_27, .int .i64 x113005_27, .int .i64 x113006_27, .string x113007_27]) ?_ 4 _ rfl; (with_reducible repeat (first | refine blk_drewN ?_ _ | refine blk_drew ?_ | refine blk_alloc ?_ _)); refine blk_put (cs := #[.int .i64 a1_0, .int .i64 a2_1, .int .i64 a1_2, .int .i64 x113003_27, .int .i64 x113004_27, .int .i64 x113005_27, .int .i64 x113006_27, .string x113007_27]) ?_ 3 _ rfl; (with_reducible repeat (first | refine blk_drewN ?_ _ | refine blk_drew ?_ | refine blk_alloc ?_ _)); refine blk_put (cs := #[.int .i64 a1_0, .int .i64 a2_1, .int .i64 x113002_27, .int .i64 x113003_27, .int .i64 x113004_27, .int .i64 x113005_27, .int .i64 x113006_27, .string x113007_27]) ?_ 2 _ rfl; (with_reducible repeat (first | refine blk_drewN ?_ _ | refine blk_drew ?_ | refine blk_alloc ?_ _)); refine blk_put (cs := #[.int .i64 a1_0, .int .i64 x113001_27, .int .i64 x113002_27, .int .i64 x113003_27, .int .i64 x113004_27, .int .i64 x113005_27, .int .i64 x113006_27, .string x113007_27]) ?_ 1 _ rfl; (with_reducible repeat (first | refine blk_drewN ?_ _ | refine blk_drew ?_ | refine blk_alloc ?_ _)); refine blk_put (cs := #[.int .i64 x113000_27, .int .i64 x113001_27, .int .i64 x113002_27, .int .i64 x113003_27, .int .i64 x113004_27, .int .i64 x113005_27, .int .i64 x113006_27, .string x113007_27]) ?_ 0 _ rfl; (with_reducible repeat (first | refine blk_drewN ?_ _ | refine blk_drew ?_ | refine blk_alloc ?_ _)); exact BK112.out), fun h0_ => absurd ((hoff 4 (by kernel_rfl)).symm.trans h0_) (by decide)⟩
        refine steps_cons ?_ ?_
        ·rintro b a w' ⟨v127, m4_, ha, Q_BK109, Q_BK110, Q_BK111, Q_BK112, Q_BK115, Q_HB, Q_HO128, Q_BK112_e3, Q_X4_⟩ hb_ hon hoff
         refine ⟨_, rfl, fun K hK => ?_⟩
         have e61 : a.tmps[61]? = some (v127) := by rw [ha]; exact putSel_on (e := (2, 61, v127)) 2 rfl rfl (hon 2 (by kernel_rfl)) rfl
         replace ha := Aside0.mk ha
         have BK109 := Aside0.mk Q_BK109
         have BK110 := Aside0.mk Q_BK110
         have BK111 := Aside0.mk Q_BK111
         have BK115 := Aside0.mk Q_BK115
         have HB := Aside0.mk Q_HB
         have HO128 := Aside0.mk (Q_HO128 (hon 2 (by kernel_rfl)))
         have BK112 := Aside0.mk (Q_BK112_e3 (hon 3 (by kernel_rfl)))
         refine value_ (w1 := w') (v := v127) (by rfl) rfl ?_ ?_
         ·go_simp
          (try simp only [i64_w, u8_w, u32_w, w64_m8, w64_m32])
          try rfl
         refine hK.out _ _ ⟨v127, (v127), (by rw [ha.out]; exact putSel_upk 3 hb_ rfl rfl rfl), Q_BK109, Q_BK110, Q_BK111, fun h0_ => absurd ((hon 3 (by kernel_rfl)).symm.trans h0_) (by decide), Q_BK115, Q_HB, Q_HO128, Q_BK112_e3, fun _ => rfl⟩
        exact steps_nil
       rintro b a w123 hall ⟨v127, m4_, ha, Q_BK109, Q_BK110, Q_BK111, Q_BK112, Q_BK115, Q_HB, Q_HO128, Q_BK112_e3, Q_X4_⟩
       clear BK109 BK110 BK111 BK112 BK115 HB
       have hb0_ := hall 0 (by kernel_rfl)
       have hb1_ := hall 1 (by kernel_rfl)
       have hb2_ := hall 2 (by kernel_rfl)
       have hb3_ := hall 3 (by kernel_rfl)
       have hb4_ := hall 4 (by kernel_rfl)
       subst ha
       obtain rfl := Q_X4_ hb4_
       simp only [putSel, hb0_, hb1_, hb2_, hb3_, hb4_, if_true, Act.put, List.setIfInBounds_toArray, List.set_cons_zero, List.set_cons_succ]
       have BK109 := Aside0.mk Q_BK109
       clear Q_BK109
       have BK110 := Aside0.mk Q_BK110
       clear Q_BK110
       have BK111 := Aside0.mk Q_BK111
       clear Q_BK111
       clear Q_BK112
       have BK115 := Aside0.mk Q_BK115
       clear Q_BK115
       have HB := Aside0.mk Q_HB
       clear Q_HB
       have HO128 := Aside0.mk (Q_HO128 hb2_)
       clear Q_HO128
       have BK112 := Aside0.mk (Q_BK112_e3 hb3_)
       clear Q_BK112_e3
       clear hall hb0_ hb1_ hb2_ hb3_ hb4_
       try go_wp2
       refine bodyPost_ret (results_ct rfl _ _ gb112 28 #[.int .i64 a1_0, .int .i64 a2_1, .int .i64 a1_2, .int .i64 t124, .int .i64 a1_4, .int .i64 a1_5, .int .i64 t125, .string a1_7] (0, 0) _ rfl (bkw BK112.out) Try.underlying28 rfl (by kernel_rfl)) rfl ?_
       exact ⟨_, by first | rfl | (simp [errW_none, errW_some] <;> rfl) | (simp [*, errW_none, errW_some] <;> rfl), by (with_reducible repeat (first | apply Kd.R_alloc | apply Kd.R_drewN | apply Kd.R_drew)); exact Kd.R_mono HO128.out (fun _ hk => trivial), by repeat (first | (with_reducible first | exact HB.out | apply below_alloc | apply pw_below_drewN | apply below_drew1 | refine below_set ?_ GE109.out | refine below_set ?_ GE110.out | refine below_set ?_ GE111.out | refine below_set ?_ GE112.out | refine below_set ?_ GE115.out) | exact HB.out)⟩
     ·rw [if_neg c37] at H
      have c37b0 : (a2_6 == 0) = false := beq_eq_false_iff_ne.mpr c37
      have c37b1 : (a2_6 != 0) = true := bne_iff_ne.mpr c37
      obtain ⟨y116, hy116⟩ : ∃ y_ : List (S33), y_ = (([(⟨2, a2_1, a2_2, a2_3, a2_4, (⟨#[]⟩ : ByteArray), a2_6⟩ : S33)] : List (S33))) := ⟨_, rfl⟩
      replace H : (some (a1_0, a2_1, a1_2, 0, a1_4, a1_5, a1_6, a1_7, y116)) = some (r1, r2, r3, r4, r5, r6, r7, r8, r9) := by first | (rw [hy116]; with_reducible exact H) | (have H2_ := (Option.bind_some _ _).symm.trans H; rw [hy116]; with_reducible exact H2_) | (have H2_ := (Option.bind_some _ _).symm.trans H; with_reducible exact H2_) | with_reducible exact H | (rw [hy116]; exact H) | exact H
      have Ny116 := Aside0.mk hy116
      clear hy116
      simp only [Option.some.injEq, Prod.mk.injEq] at H
      obtain ⟨rfl, rfl, rfl, rfl, rfl, rfl, rfl, rfl, rfl⟩ := H
      have hnb124 := NB111_109.out
      have hnc124 := NB109_111.out
      have hnb125 := NB111_110.out
      have hnc125 := NB110_111.out
      have hnb126 := NB111_112.out
      have hnc126 := NB112_111.out
      have hcz127_0 : wc.cell? ⟨gb111, 0, none⟩ = some (.int .i64 a2_0) := (blk_cell BK111.out 0).trans rfl
      have hcz127_1 : wc.cell? ⟨gb111, 1, none⟩ = some (.int .i64 a2_1) := (blk_cell BK111.out 1).trans rfl
      have hcz127_2 : wc.cell? ⟨gb111, 2, none⟩ = some (.int .i64 a2_2) := (blk_cell BK111.out 2).trans rfl
      have hcz127_3 : wc.cell? ⟨gb111, 3, none⟩ = some (.int .i64 a2_3) := (blk_cell BK111.out 3).trans rfl
      have hcz127_4 : wc.cell? ⟨gb111, 4, none⟩ = some (.int .i64 a2_4) := (blk_cell BK111.out 4).trans rfl
      have hcz127_5 : wc.cell? ⟨gb111, 5, none⟩ = some (.string a2_5) := (blk_cell BK111.out 5).trans rfl
      have hcz127_6 : wc.cell? ⟨gb111, 6, none⟩ = some (.int .i64 a2_6) := (blk_cell BK111.out 6).trans rfl
      have hfz127_0 := blk_frozen BK111.out 0
      have hfz127_1 := blk_frozen BK111.out 1
      have hfz127_2 := blk_frozen BK111.out 2
      have hfz127_3 := blk_frozen BK111.out 3
      have hfz127_4 := blk_frozen BK111.out 4
      have hfz127_5 := blk_frozen BK111.out 5
      have hfz127_6 := blk_frozen BK111.out 6
      have hnb128 := NB110_109.out
      have hnc128 := NB109_110.out
      have hnb129 := NB110_112.out
      have hnc129 := NB112_110.out
      have hcz130_0 : wc.cell? ⟨gb110, 0, none⟩ = some (.int .i64 a1_0) := (blk_cell BK110.out 0).trans rfl
      have hcz130_1 : wc.cell? ⟨gb110, 1, none⟩ = some (.int .i64 a1_1) := (blk_cell BK110.out 1).trans rfl
      have hcz130_2 : wc.cell? ⟨gb110, 2, none⟩ = some (.int .i64 a1_2) := (blk_cell BK110.out 2).trans rfl
      have hcz130_3 : wc.cell? ⟨gb110, 3, none⟩ = some (.int .i64 a1_3) := (blk_cell BK110.out 3).trans rfl
      have hcz130_4 : wc.cell? ⟨gb110, 4, none⟩ = some (.int .i64 a1_4) := (blk_cell BK110.out 4).trans rfl
      have hcz130_5 : wc.cell? ⟨gb110, 5, none⟩ = some (.int .i64 a1_5) := (blk_cell BK110.out 5).trans rfl
      have hcz130_6 : wc.cell? ⟨gb110, 6, none⟩ = some (.int .i64 a1_6) := (blk_cell BK110.out 6).trans rfl
      have hcz130_7 : wc.cell? ⟨gb110, 7, none⟩ = some (.string a1_7) := (blk_cell BK110.out 7).trans rfl
      have hfz130_0 := blk_frozen BK110.out 0
      have hfz130_1 := blk_frozen BK110.out 1
      have hfz130_2 := blk_frozen BK110.out 2
      have hfz130_3 := blk_frozen BK110.out 3
      have hfz130_4 := blk_frozen BK110.out 4
      have hfz130_5 := blk_frozen BK110.out 5
      have hfz130_6 := blk_frozen BK110.out 6
      have hfz130_7 := blk_frozen BK110.out 7
      try go_wp2_with (first | ((with_reducible refine gate_dst (N := 8) rfl ?_); refine box_event ?hg (N := 8) ?hd (cs := #[.int .i64 0, .int .i64 0, .int .i64 0, .int .i64 0, .int .i64 0, .string (⟨#[]⟩ : ByteArray), .int .i64 0]) (t := 33) ?hr ?_; (case hd => rfl); (case hg => rfl); (case hr => first | (go_simp; done) | (go_simp; rfl)); intro gb115 hg w131 hbox hb; have n0_ := Aside0.mk (blk_below (g := gb109) (o := .cells #[.int .i64 a0_0, .bool a0_1] 23 (0, 0)) (by (with_reducible repeat (first | refine blk_drewN ?_ _ | refine blk_drew ?_ | refine blk_alloc ?_ _)); refine blk_far ?_ NB109_110.out _; (with_reducible repeat (first | refine blk_drewN ?_ _ | refine blk_drew ?_ | refine blk_alloc ?_ _)); exact BK109.out) hb); have n1_ := Aside0.mk (blk_below (g := gb110) (o := .cells #[.int .i64 a1_0, .int .i64 a2_1, .int .i64 a1_2, .int .i64 a1_3, .int .i64 a1_4, .int .i64 a1_5, .int .i64 a1_6, .string a1_7] 28 (0, 0)) (by (with_reducible repeat (first | refine blk_drewN ?_ _ | refine blk_drew ?_ | refine blk_alloc ?_ _)); refine blk_put (cs := #[.int .i64 a1_0, .int .i64 a1_1, .int .i64 a1_2, .int .i64 a1_3, .int .i64 a1_4, .int .i64 a1_5, .int .i64 a1_6, .string a1_7]) ?_ 1 _ rfl; (with_reducible repeat (first | refine blk_drewN ?_ _ | refine blk_drew ?_ | refine blk_alloc ?_ _)); exact BK110.out) hb); have n2_ := Aside0.mk (blk_below (g := gb111) (o := .cells #[.int .i64 a2_0, .int .i64 a2_1, .int .i64 a2_2, .int .i64 a2_3, .int .i64 a2_4, .string a2_5, .int .i64 a2_6] 33 (0, 0)) (by (with_reducible repeat (first | refine blk_drewN ?_ _ | refine blk_drew ?_ | refine blk_alloc ?_ _)); refine blk_far ?_ NB111_110.out _; (with_reducible repeat (first | refine blk_drewN ?_ _ | refine blk_drew ?_ | refine blk_alloc ?_ _)); exact BK111.out) hb); have n3_ := Aside0.mk (blk_below (g := gb112) (o := .cells #[.int .i64 x113000_27, .int .i64 x113001_27, .int .i64 x113002_27, .int .i64 x113003_27, .int .i64 x113004_27, .int .i64 x113005_27, .int .i64 x113006_27, .string x113007_27] 28 (0, 0)) (by (with_reducible repeat (first | refine blk_drewN ?_ _ | refine blk_drew ?_ | refine blk_alloc ?_ _)); refine blk_far ?_ NB112_110.out _; (with_reducible repeat (first | refine blk_drewN ?_ _ | refine blk_drew ?_ | refine blk_alloc ?_ _)); exact BK112.out) hb); have n4_ := Aside0.mk (below_step (hbw HB.out) hb); have n5_ := Aside0.mk (hbox); have n6_ := Aside0.mk ((by rw [hg]; exact (below_size (hbw HB.out)) : w.heap.size ≤ gb115)); have n7_ := Aside0.mk ((by rw [hg]; exact (below_size (hbw HB.out)) : w.heap.size ≤ gb115)); have n8_ := Aside0.mk ((by rw [hg]; exact Nat.ne_of_lt (blk_lt (g := gb109) (o := .cells #[.int .i64 a0_0, .bool a0_1] 23 (0, 0)) (by (with_reducible repeat (first | refine blk_drewN ?_ _ | refine blk_drew ?_ | refine blk_alloc ?_ _)); refine blk_far ?_ NB109_110.out _; (with_reducible repeat (first | refine blk_drewN ?_ _ | refine blk_drew ?_ | refine blk_alloc ?_ _)); exact BK109.out)) : gb109 ≠ gb115)); have n9_ := Aside0.mk ((by rw [hg]; exact Nat.ne_of_gt (blk_lt (g := gb109) (o := .cells #[.int .i64 a0_0, .bool a0_1] 23 (0, 0)) (by (with_reducible repeat (first | refine blk_drewN ?_ _ | refine blk_drew ?_ | refine blk_alloc ?_ _)); refine blk_far ?_ NB109_110.out _; (with_reducible repeat (first | refine blk_drewN ?_ _ | refine blk_drew ?_ | refine blk_alloc ?_ _)); exact BK109.out)) : gb115 ≠ gb109)); have n10_ := Aside0.mk ((by rw [hg]; exact Nat.ne_of_lt (blk_lt (g := gb110) (o := .cells #[.int .i64 a1_0, .int .i64 a2_1, .int .i64 a1_2, .int .i64 a1_3, .int .i64 a1_4, .int .i64 a1_5, .int .i64 a1_6, .string a1_7] 28 (0, 0)) (by (with_reducible repeat (first | refine blk_drewN ?_ _ | refine blk_drew ?_ | refine blk_alloc ?_ _)); refine blk_put (cs := #[.int .i64 a1_0, .int .i64 a1_1, .int .i64 a1_2, .int .i64 a1_3, .int .i64 a1_4, .int .i64 a1_5, .int .i64 a1_6, .string a1_7]) ?_ 1 _ rfl; (with_reducible repeat (first | refine blk_drewN ?_ _ | refine blk_drew ?_ | refine blk_alloc ?_ _)); exact BK110.out)) : gb110 ≠ gb115)); have n11_ := Aside0.mk ((by rw [hg]; exact Nat.ne_of_gt (blk_lt (g := gb110) (o := .cells #[.int .i64 a1_0, .int .i64 a2_1, .int .i64 a1_2, .int .i64 a1_3, .int .i64 a1_4, .int .i64 a1_5, .int .i64 a1_6, .string a1_7] 28 (0, 0)) (by (with_reducible repeat (first | refine blk_drewN ?_ _ | refine blk_drew ?_ | refine blk_alloc ?_ _)); refine blk_put (cs := #[.int .i64 a1_0, .int .i64 a1_1, .int .i64 a1_2, .int .i64 a1_3, .int .i64 a1_4, .int .i64 a1_5, .int .i64 a1_6, .string a1_7]) ?_ 1 _ rfl; (with_reducible repeat (first | refine blk_drewN ?_ _ | refine blk_drew ?_ | refine blk_alloc ?_ _)); exact BK110.out)) : gb115 ≠ gb110)); have n12_ := Aside0.mk ((by rw [hg]; exact Nat.ne_of_lt (blk_lt (g := gb111) (o := .cells #[.int .i64 a2_0, .int .i64 a2_1, .int .i64 a2_2, .int .i64 a2_3, .int .i64 a2_4, .string a2_5, .int .i64 a2_6] 33 (0, 0)) (by (with_reducible repeat (first | refine blk_drewN ?_ _ | refine blk_drew ?_ | refine blk_alloc ?_ _)); refine blk_far ?_ NB111_110.out _; (with_reducible repeat (first | refine blk_drewN ?_ _ | refine blk_drew ?_ | refine blk_alloc ?_ _)); exact BK111.out)) : gb111 ≠ gb115)); have n13_ := Aside0.mk ((by rw [hg]; exact Nat.ne_of_gt (blk_lt (g := gb111) (o := .cells #[.int .i64 a2_0, .int .i64 a2_1, .int .i64 a2_2, .int .i64 a2_3, .int .i64 a2_4, .string a2_5, .int .i64 a2_6] 33 (0, 0)) (by (with_reducible repeat (first | refine blk_drewN ?_ _ | refine blk_drew ?_ | refine blk_alloc ?_ _)); refine blk_far ?_ NB111_110.out _; (with_reducible repeat (first | refine blk_drewN ?_ _ | refine blk_drew ?_ | refine blk_alloc ?_ _)); exact BK111.out)) : gb115 ≠ gb111)); have n14_ := Aside0.mk ((by rw [hg]; exact Nat.ne_of_lt (blk_lt (g := gb112) (o := .cells #[.int .i64 x113000_27, .int .i64 x113001_27, .int .i64 x113002_27, .int .i64 x113003_27, .int .i64 x113004_27, .int .i64 x113005_27, .int .i64 x113006_27, .string x113007_27] 28 (0, 0)) (by (with_reducible repeat (first | refine blk_drewN ?_ _ | refine blk_drew ?_ | refine blk_alloc ?_ _)); refine blk_far ?_ NB112_110.out _; (with_reducible repeat (first | refine blk_drewN ?_ _ | refine blk_drew ?_ | refine blk_alloc ?_ _)); exact BK112.out)) : gb112 ≠ gb115)); have n15_ := Aside0.mk ((by rw [hg]; exact Nat.ne_of_gt (blk_lt (g := gb112) (o := .cells #[.int .i64 x113000_27, .int .i64 x113001_27, .int .i64 x113002_27, .int .i64 x113003_27, .int .i64 x113004_27, .int .i64 x113005_27, .int .i64 x113006_27, .string x113007_27] 28 (0, 0)) (by (with_reducible repeat (first | refine blk_drewN ?_ _ | refine blk_drew ?_ | refine blk_alloc ?_ _)); refine blk_far ?_ NB112_110.out _; (with_reducible repeat (first | refine blk_drewN ?_ _ | refine blk_drew ?_ | refine blk_alloc ?_ _)); exact BK112.out)) : gb115 ≠ gb112)); clear BK109; clear BK110; clear BK111; clear BK112; clear HB; have BK109 := n0_; have BK110 := n1_; have BK111 := n2_; have BK112 := n3_; have HB := n4_; have BK115 := n5_; have GW115 := n6_; have GE115 := n7_; have NB109_115 := n8_; have NB115_109 := n9_; have NB110_115 := n10_; have NB115_110 := n11_; have NB111_115 := n12_; have NB115_111 := n13_; have NB112_115 := n14_; have NB115_112 := n15_; clear n0_ n1_ n2_ n3_ n4_ n5_ n6_ n7_ n8_ n9_ n10_ n11_ n12_ n13_ n14_ n15_; clear hb hbox hg; have hnb132 := NB115_109.out; have hnc132 := NB109_115.out; have hnb133 := NB115_110.out; have hnc133 := NB110_115.out; have hnb134 := NB115_111.out; have hnc134 := NB111_115.out; have hnb135 := NB115_112.out; have hnc135 := NB112_115.out; have hcz136_0 : w131.cell? ⟨gb115, 0, none⟩ = some (.int .i64 0) := (blk_cell BK115.out 0).trans rfl; have hcz136_1 : w131.cell? ⟨gb115, 1, none⟩ = some (.int .i64 0) := (blk_cell BK115.out 1).trans rfl; have hcz136_2 : w131.cell? ⟨gb115, 2, none⟩ = some (.int .i64 0) := (blk_cell BK115.out 2).trans rfl; have hcz136_3 : w131.cell? ⟨gb115, 3, none⟩ = some (.int .i64 0) := (blk_cell BK115.out 3).trans rfl; have hcz136_4 : w131.cell? ⟨gb115, 4, none⟩ = some (.int .i64 0) := (blk_cell BK115.out 4).trans rfl; have hcz136_5 : w131.cell? ⟨gb115, 5, none⟩ = some (.string (⟨#[]⟩ : ByteArray)) := (blk_cell BK115.out 5).trans rfl; have hcz136_6 : w131.cell? ⟨gb115, 6, none⟩ = some (.int .i64 0) := (blk_cell BK115.out 6).trans rfl; have hfz136_0 := blk_frozen BK115.out 0; have hfz136_1 := blk_frozen BK115.out 1; have hfz136_2 := blk_frozen BK115.out 2; have hfz136_3 := blk_frozen BK115.out 3; have hfz136_4 := blk_frozen BK115.out 4; have hfz136_5 := blk_frozen BK115.out 5; have hfz136_6 := blk_frozen BK115.out 6; have hcz137_0 : w131.cell? ⟨gb111, 0, none⟩ = some (.int .i64 a2_0) := (blk_cell BK111.out 0).trans rfl; have hcz137_1 : w131.cell? ⟨gb111, 1, none⟩ = some (.int .i64 a2_1) := (blk_cell BK111.out 1).trans rfl; have hcz137_2 : w131.cell? ⟨gb111, 2, none⟩ = some (.int .i64 a2_2) := (blk_cell BK111.out 2).trans rfl; have hcz137_3 : w131.cell? ⟨gb111, 3, none⟩ = some (.int .i64 a2_3) := (blk_cell BK111.out 3).trans rfl; have hcz137_4 : w131.cell? ⟨gb111, 4, none⟩ = some (.int .i64 a2_4) := (blk_cell BK111.out 4).trans rfl; have hcz137_5 : w131.cell? ⟨gb111, 5, none⟩ = some (.string a2_5) := (blk_cell BK111.out 5).trans rfl; have hcz137_6 : w131.cell? ⟨gb111, 6, none⟩ = some (.int .i64 a2_6) := (blk_cell BK111.out 6).trans rfl; have hfz137_0 := blk_frozen BK111.out 0; have hfz137_1 := blk_frozen BK111.out 1; have hfz137_2 := blk_frozen BK111.out 2; have hfz137_3 := blk_frozen BK111.out 3; have hfz137_4 := blk_frozen BK111.out 4; have hfz137_5 := blk_frozen BK111.out 5; have hfz137_6 := blk_frozen BK111.out 6; have hcz138_0 : w131.cell? ⟨gb110, 0, none⟩ = some (.int .i64 a1_0) := (blk_cell BK110.out 0).trans rfl; have hcz138_1 : w131.cell? ⟨gb110, 1, none⟩ = some (.int .i64 a2_1) := (blk_cell BK110.out 1).trans rfl; have hcz138_2 : w131.cell? ⟨gb110, 2, none⟩ = some (.int .i64 a1_2) := (blk_cell BK110.out 2).trans rfl; have hcz138_3 : w131.cell? ⟨gb110, 3, none⟩ = some (.int .i64 a1_3) := (blk_cell BK110.out 3).trans rfl; have hcz138_4 : w131.cell? ⟨gb110, 4, none⟩ = some (.int .i64 a1_4) := (blk_cell BK110.out 4).trans rfl; have hcz138_5 : w131.cell? ⟨gb110, 5, none⟩ = some (.int .i64 a1_5) := (blk_cell BK110.out 5).trans rfl; have hcz138_6 : w131.cell? ⟨gb110, 6, none⟩ = some (.int .i64 a1_6) := (blk_cell BK110.out 6).trans rfl; have hcz138_7 : w131.cell? ⟨gb110, 7, none⟩ = some (.string a1_7) := (blk_cell BK110.out 7).trans rfl; have hfz138_0 := blk_frozen BK110.out 0; have hfz138_1 := blk_frozen BK110.out 1; have hfz138_2 := blk_frozen BK110.out 2; have hfz138_3 := blk_frozen BK110.out 3; have hfz138_4 := blk_frozen BK110.out 4; have hfz138_5 := blk_frozen BK110.out 5; have hfz138_6 := blk_frozen BK110.out 6; have hfz138_7 := blk_frozen BK110.out 7))
      have n0_ : Aside0 (((((((((w131.setCell ⟨gb115, 0, none⟩ (.int .i64 2)).setCell ⟨gb115, 1, none⟩ (.int .i64 a2_1)).setCell ⟨gb115, 2, none⟩ (.int .i64 a2_2)).setCell ⟨gb115, 3, none⟩ (.int .i64 a2_3)).setCell ⟨gb115, 4, none⟩ (.int .i64 a2_4)).setCell ⟨gb115, 5, none⟩ (.string (⟨#[]⟩ : ByteArray))).setCell ⟨gb115, 6, none⟩ (.int .i64 a2_6)).setCell ⟨gb110, 3, none⟩ (.int .i64 0)).heap[gb109]? = some (.cells #[.int .i64 a0_0, .bool a0_1] 23 (0, 0))) := ⟨by (with_reducible repeat (first | refine blk_drewN ?_ _ | refine blk_drew ?_ | refine blk_alloc ?_ _)); refine blk_far ?_ NB109_110.out _; (with_reducible repeat (first | refine blk_drewN ?_ _ | refine blk_drew ?_ | refine blk_alloc ?_ _)); refine blk_far ?_ NB109_115.out _; (with_reducible repeat (first | refine blk_drewN ?_ _ | refine blk_drew ?_ | refine blk_alloc ?_ _)); refine blk_far ?_ NB109_115.out _; (with_reducible repeat (first | refine blk_drewN ?_ _ | refine blk_drew ?_ | refine blk_alloc ?_ _)); refine blk_far ?_ NB109_115.out _; (with_reducible repeat (first | refine blk_drewN ?_ _ | refine blk_drew ?_ | refine blk_alloc ?_ _)); refine blk_far ?_ NB109_115.out _; (with_reducible repeat (first | refine blk_drewN ?_ _ | refine blk_drew ?_ | refine blk_alloc ?_ _)); refine blk_far ?_ NB109_115.out _; (with_reducible repeat (first | refine blk_drewN ?_ _ | refine blk_drew ?_ | refine blk_alloc ?_ _)); refine blk_far ?_ NB109_115.out _; (with_reducible repeat (first | refine blk_drewN ?_ _ | refine blk_drew ?_ | refine blk_alloc ?_ _)); refine blk_far ?_ NB109_115.out _; (with_reducible repeat (first | refine blk_drewN ?_ _ | refine blk_drew ?_ | refine blk_alloc ?_ _)); exact BK109.out⟩
      have n1_ : Aside0 (((((((((w131.setCell ⟨gb115, 0, none⟩ (.int .i64 2)).setCell ⟨gb115, 1, none⟩ (.int .i64 a2_1)).setCell ⟨gb115, 2, none⟩ (.int .i64 a2_2)).setCell ⟨gb115, 3, none⟩ (.int .i64 a2_3)).setCell ⟨gb115, 4, none⟩ (.int .i64 a2_4)).setCell ⟨gb115, 5, none⟩ (.string (⟨#[]⟩ : ByteArray))).setCell ⟨gb115, 6, none⟩ (.int .i64 a2_6)).setCell ⟨gb110, 3, none⟩ (.int .i64 0)).heap[gb110]? = some (.cells #[.int .i64 a1_0, .int .i64 a2_1, .int .i64 a1_2, .int .i64 0, .int .i64 a1_4, .int .i64 a1_5, .int .i64 a1_6, .string a1_7] 28 (0, 0))) := ⟨by (with_reducible repeat (first | refine blk_drewN ?_ _ | refine blk_drew ?_ | refine blk_alloc ?_ _)); refine blk_put (cs := #[.int .i64 a1_0, .int .i64 a2_1, .int .i64 a1_2, .int .i64 a1_3, .int .i64 a1_4, .int .i64 a1_5, .int .i64 a1_6, .string a1_7]) ?_ 3 _ rfl; (with_reducible repeat (first | refine blk_drewN ?_ _ | refine blk_drew ?_ | refine blk_alloc ?_ _)); refine blk_far ?_ NB110_115.out _; (with_reducible repeat (first | refine blk_drewN ?_ _ | refine blk_drew ?_ | refine blk_alloc ?_ _)); refine blk_far ?_ NB110_115.out _; (with_reducible repeat (first | refine blk_drewN ?_ _ | refine blk_drew ?_ | refine blk_alloc ?_ _)); refine blk_far ?_ NB110_115.out _; (with_reducible repeat (first | refine blk_drewN ?_ _ | refine blk_drew ?_ | refine blk_alloc ?_ _)); refine blk_far ?_ NB110_115.out _; (with_reducible repeat (first | refine blk_drewN ?_ _ | refine blk_drew ?_ | refine blk_alloc ?_ _)); refine blk_far ?_ NB110_115.out _; (with_reducible repeat (first | refine blk_drewN ?_ _ | refine blk_drew ?_ | refine blk_alloc ?_ _)); refine blk_far ?_ NB110_115.out _; (with_reducible repeat (first | refine blk_drewN ?_ _ | refine blk_drew ?_ | refine blk_alloc ?_ _)); refine blk_far ?_ NB110_115.out _; (with_reducible repeat (first | refine blk_drewN ?_ _ | refine blk_drew ?_ | refine blk_alloc ?_ _)); exact BK110.out⟩
      have n2_ : Aside0 (((((((((w131.setCell ⟨gb115, 0, none⟩ (.int .i64 2)).setCell ⟨gb115, 1, none⟩ (.int .i64 a2_1)).setCell ⟨gb115, 2, none⟩ (.int .i64 a2_2)).setCell ⟨gb115, 3, none⟩ (.int .i64 a2_3)).setCell ⟨gb115, 4, none⟩ (.int .i64 a2_4)).setCell ⟨gb115, 5, none⟩ (.string (⟨#[]⟩ : ByteArray))).setCell ⟨gb115, 6, none⟩ (.int .i64 a2_6)).setCell ⟨gb110, 3, none⟩ (.int .i64 0)).heap[gb111]? = some (.cells #[.int .i64 a2_0, .int .i64 a2_1, .int .i64 a2_2, .int .i64 a2_3, .int .i64 a2_4, .string a2_5, .int .i64 a2_6] 33 (0, 0))) := ⟨by (with_reducible repeat (first | refine blk_drewN ?_ _ | refine blk_drew ?_ | refine blk_alloc ?_ _)); refine blk_far ?_ NB111_110.out _; (with_reducible repeat (first | refine blk_drewN ?_ _ | refine blk_drew ?_ | refine blk_alloc ?_ _)); refine blk_far ?_ NB111_115.out _; (with_reducible repeat (first | refine blk_drewN ?_ _ | refine blk_drew ?_ | refine blk_alloc ?_ _)); refine blk_far ?_ NB111_115.out _; (with_reducible repeat (first | refine blk_drewN ?_ _ | refine blk_drew ?_ | refine blk_alloc ?_ _)); refine blk_far ?_ NB111_115.out _; (with_reducible repeat (first | refine blk_drewN ?_ _ | refine blk_drew ?_ | refine blk_alloc ?_ _)); refine blk_far ?_ NB111_115.out _; (with_reducible repeat (first | refine blk_drewN ?_ _ | refine blk_drew ?_ | refine blk_alloc ?_ _)); refine blk_far ?_ NB111_115.out _; (with_reducible repeat (first | refine blk_drewN ?_ _ | refine blk_drew ?_ | refine blk_alloc ?_ _)); refine blk_far ?_ NB111_115.out _; (with_reducible repeat (first | refine blk_drewN ?_ _ | refine blk_drew ?_ | refine blk_alloc ?_ _)); refine blk_far ?_ NB111_115.out _; (with_reducible repeat (first | refine blk_drewN ?_ _ | refine blk_drew ?_ | refine blk_alloc ?_ _)); exact BK111.out⟩
      have n3_ : Aside0 (((((((((w131.setCell ⟨gb115, 0, none⟩ (.int .i64 2)).setCell ⟨gb115, 1, none⟩ (.int .i64 a2_1)).setCell ⟨gb115, 2, none⟩ (.int .i64 a2_2)).setCell ⟨gb115, 3, none⟩ (.int .i64 a2_3)).setCell ⟨gb115, 4, none⟩ (.int .i64 a2_4)).setCell ⟨gb115, 5, none⟩ (.string (⟨#[]⟩ : ByteArray))).setCell ⟨gb115, 6, none⟩ (.int .i64 a2_6)).setCell ⟨gb110, 3, none⟩ (.int .i64 0)).heap[gb112]? = some (.cells #[.int .i64 x113000_27, .int .i64 x113001_27, .int .i64 x113002_27, .int .i64 x113003_27, .int .i64 x113004_27, .int .i64 x113005_27, .int .i64 x113006_27, .string x113007_27] 28 (0, 0))) := ⟨by (with_reducible repeat (first | refine blk_drewN ?_ _ | refine blk_drew ?_ | refine blk_alloc ?_ _)); refine blk_far ?_ NB112_110.out _; (with_reducible repeat (first | refine blk_drewN ?_ _ | refine blk_drew ?_ | refine blk_alloc ?_ _)); refine blk_far ?_ NB112_115.out _; (with_reducible repeat (first | refine blk_drewN ?_ _ | refine blk_drew ?_ | refine blk_alloc ?_ _)); refine blk_far ?_ NB112_115.out _; (with_reducible repeat (first | refine blk_drewN ?_ _ | refine blk_drew ?_ | refine blk_alloc ?_ _)); refine blk_far ?_ NB112_115.out _; (with_reducible repeat (first | refine blk_drewN ?_ _ | refine blk_drew ?_ | refine blk_alloc ?_ _)); refine blk_far ?_ NB112_115.out _; (with_reducible repeat (first | refine blk_drewN ?_ _ | refine blk_drew ?_ | refine blk_alloc ?_ _)); refine blk_far ?_ NB112_115.out _; (with_reducible repeat (first | refine blk_drewN ?_ _ | refine blk_drew ?_ | refine blk_alloc ?_ _)); refine blk_far ?_ NB112_115.out _; (with_reducible repeat (first | refine blk_drewN ?_ _ | refine blk_drew ?_ | refine blk_alloc ?_ _)); refine blk_far ?_ NB112_115.out _; (with_reducible repeat (first | refine blk_drewN ?_ _ | refine blk_drew ?_ | refine blk_alloc ?_ _)); exact BK112.out⟩
      have n4_ : Aside0 (((((((((w131.setCell ⟨gb115, 0, none⟩ (.int .i64 2)).setCell ⟨gb115, 1, none⟩ (.int .i64 a2_1)).setCell ⟨gb115, 2, none⟩ (.int .i64 a2_2)).setCell ⟨gb115, 3, none⟩ (.int .i64 a2_3)).setCell ⟨gb115, 4, none⟩ (.int .i64 a2_4)).setCell ⟨gb115, 5, none⟩ (.string (⟨#[]⟩ : ByteArray))).setCell ⟨gb115, 6, none⟩ (.int .i64 a2_6)).setCell ⟨gb110, 3, none⟩ (.int .i64 0)).heap[gb115]? = some (.cells #[.int .i64 2, .int .i64 a2_1, .int .i64 a2_2, .int .i64 a2_3, .int .i64 a2_4, .string (⟨#[]⟩ : ByteArray), .int .i64 a2_6] 33 (0, 0))) := ⟨by (with_reducible repeat (first | refine blk_drewN ?_ _ | refine blk_drew ?_ | refine blk_alloc ?_ _)); refine blk_far ?_ NB115_110.out _; (with_reducible repeat (first | refine blk_drewN ?_ _ | refine blk_drew ?_ | refine blk_alloc ?_ _)); refine blk_put (cs := #[.int .i64 2, .int .i64 a2_1, .int .i64 a2_2, .int .i64 a2_3, .int .i64 a2_4, .string (⟨#[]⟩ : ByteArray), .int .i64 0]) ?_ 6 _ rfl; (with_reducible repeat (first | refine blk_drewN ?_ _ | refine blk_drew ?_ | refine blk_alloc ?_ _)); refine blk_put (cs := #[.int .i64 2, .int .i64 a2_1, .int .i64 a2_2, .int .i64 a2_3, .int .i64 a2_4, .string (⟨#[]⟩ : ByteArray), .int .i64 0]) ?_ 5 _ rfl; (with_reducible repeat (first | refine blk_drewN ?_ _ | refine blk_drew ?_ | refine blk_alloc ?_ _)); refine blk_put (cs := #[.int .i64 2, .int .i64 a2_1, .int .i64 a2_2, .int .i64 a2_3, .int .i64 0, .string (⟨#[]⟩ : ByteArray), .int .i64 0]) ?_ 4 _ rfl; (with_reducible repeat (first | refine blk_drewN ?_ _ | refine blk_drew ?_ | refine blk_alloc ?_ _)); refine blk_put (cs := #[.int .i64 2, .int .i64 a2_1, .int .i64 a2_2, .int .i64 0, .int .i64 0, .string (⟨#[]⟩ : ByteArray), .int .i64 0]) ?_ 3 _ rfl; (with_reducible repeat (first | refine blk_drewN ?_ _ | refine blk_drew ?_ | refine blk_alloc ?_ _)); refine blk_put (cs := #[.int .i64 2, .int .i64 a2_1, .int .i64 0, .int .i64 0, .int .i64 0, .string (⟨#[]⟩ : ByteArray), .int .i64 0]) ?_ 2 _ rfl; (with_reducible repeat (first | refine blk_drewN ?_ _ | refine blk_drew ?_ | refine blk_alloc ?_ _)); refine blk_put (cs := #[.int .i64 2, .int .i64 0, .int .i64 0, .int .i64 0, .int .i64 0, .string (⟨#[]⟩ : ByteArray), .int .i64 0]) ?_ 1 _ rfl; (with_reducible repeat (first | refine blk_drewN ?_ _ | refine blk_drew ?_ | refine blk_alloc ?_ _)); refine blk_put (cs := #[.int .i64 0, .int .i64 0, .int .i64 0, .int .i64 0, .int .i64 0, .string (⟨#[]⟩ : ByteArray), .int .i64 0]) ?_ 0 _ rfl; (with_reducible repeat (first | refine blk_drewN ?_ _ | refine blk_drew ?_ | refine blk_alloc ?_ _)); exact BK115.out⟩
      have n5_ : Aside0 (Below w.heap.size w ((((((((w131.setCell ⟨gb115, 0, none⟩ (.int .i64 2)).setCell ⟨gb115, 1, none⟩ (.int .i64 a2_1)).setCell ⟨gb115, 2, none⟩ (.int .i64 a2_2)).setCell ⟨gb115, 3, none⟩ (.int .i64 a2_3)).setCell ⟨gb115, 4, none⟩ (.int .i64 a2_4)).setCell ⟨gb115, 5, none⟩ (.string (⟨#[]⟩ : ByteArray))).setCell ⟨gb115, 6, none⟩ (.int .i64 a2_6)).setCell ⟨gb110, 3, none⟩ (.int .i64 0))) := ⟨by repeat (first | (with_reducible first | exact HB.out | apply below_alloc | apply pw_below_drewN | apply below_drew1 | refine below_set ?_ GE109.out | refine below_set ?_ GE110.out | refine below_set ?_ GE111.out | refine below_set ?_ GE112.out | refine below_set ?_ GE115.out) | exact HB.out)⟩
      (try clear BK109)
      (try clear BK110)
      (try clear BK111)
      (try clear BK112)
      (try clear BK115)
      (try clear HB)
      generalize ((((((((w131.setCell ⟨gb115, 0, none⟩ (.int .i64 2)).setCell ⟨gb115, 1, none⟩ (.int .i64 a2_1)).setCell ⟨gb115, 2, none⟩ (.int .i64 a2_2)).setCell ⟨gb115, 3, none⟩ (.int .i64 a2_3)).setCell ⟨gb115, 4, none⟩ (.int .i64 a2_4)).setCell ⟨gb115, 5, none⟩ (.string (⟨#[]⟩ : ByteArray))).setCell ⟨gb115, 6, none⟩ (.int .i64 a2_6)).setCell ⟨gb110, 3, none⟩ (.int .i64 0)) = w139 at n0_ n1_ n2_ n3_ n4_ n5_ ⊢
      have BK109 := n0_
      have BK110 := n1_
      have BK111 := n2_
      have BK112 := n3_
      have BK115 := n4_
      have HB := n5_
      clear n0_ n1_ n2_ n3_ n4_ n5_
      have n0_ := Aside0.mk (blk_drew BK109.out)
      have n1_ := Aside0.mk (blk_drew BK110.out)
      have n2_ := Aside0.mk (blk_drew BK111.out)
      have n3_ := Aside0.mk (blk_drew BK112.out)
      have n4_ := Aside0.mk (blk_drew BK115.out)
      have n5_ := Aside0.mk (below_drew1 HB.out)
      clear BK109
      clear BK110
      clear BK111
      clear BK112
      clear BK115
      clear HB
      have BK109 := n0_
      have BK110 := n1_
      have BK111 := n2_
      have BK112 := n3_
      have BK115 := n4_
      have HB := n5_
      clear n0_ n1_ n2_ n3_ n4_ n5_
      refine start_ (n := 5) (S := fun w' => True) (ds := []) #[false, false, false, false, false] (by kernel_rfl) rfl rfl trivial (fun hHeld => ?_); refine with_tabW stuff_Step.tab7 stuff_Step.bits7 (fun HT_ HW_ => ?_)
      generalize w139.drew = w140 at BK109 BK110 BK111 BK112 BK115 HB hHeld ⊢
      refine inv_at [0, 1, 2, 3, 4] (fun a0_ b a w' => ∃ (v117 : Value) (m4_ : Value), a = putSel a0_ b [(0, 38, .agg #[.int .i64 a1_0, .int .i64 a2_1, .int .i64 a1_2, .int .i64 0, .int .i64 a1_4, .int .i64 a1_5, .int .i64 a1_6, .string a1_7]), (1, 39, .agg #[.int .i64 2, .int .i64 a2_1, .int .i64 a2_2, .int .i64 a2_3, .int .i64 a2_4, .string (⟨#[]⟩ : ByteArray), .int .i64 a2_6]), (2, 40, v117), (4, 7, m4_)] ∧ (w'.heap[gb109]? = some (.cells #[.int .i64 a0_0, .bool a0_1] 23 (0, 0))) ∧ (w'.heap[gb110]? = some (.cells #[.int .i64 a1_0, .int .i64 a2_1, .int .i64 a1_2, .int .i64 0, .int .i64 a1_4, .int .i64 a1_5, .int .i64 a1_6, .string a1_7] 28 (0, 0))) ∧ (w'.heap[gb111]? = some (.cells #[.int .i64 a2_0, .int .i64 a2_1, .int .i64 a2_2, .int .i64 a2_3, .int .i64 a2_4, .string a2_5, .int .i64 a2_6] 33 (0, 0))) ∧ (b 3 = false → w'.heap[gb112]? = some (.cells #[.int .i64 x113000_27, .int .i64 x113001_27, .int .i64 x113002_27, .int .i64 x113003_27, .int .i64 x113004_27, .int .i64 x113005_27, .int .i64 x113006_27, .string x113007_27] 28 (0, 0))) ∧ (w'.heap[gb115]? = some (.cells #[.int .i64 2, .int .i64 a2_1, .int .i64 a2_2, .int .i64 a2_3, .int .i64 a2_4, .string (⟨#[]⟩ : ByteArray), .int .i64 a2_6] 33 (0, 0))) ∧ (Below w.heap.size w w') ∧ (b 2 = true → Kd.R k33 33 w' w.heap.size (fun k_ => k_ ≠ gb111 ∧ k_ ≠ gb115) v117 y116) ∧ (b 3 = true → w'.heap[gb112]? = some (.cells #[.int .i64 a1_0, .int .i64 a2_1, .int .i64 a1_2, .int .i64 0, .int .i64 a1_4, .int .i64 a1_5, .int .i64 a1_6, .string a1_7] 28 (0, 0))) ∧ (b 4 = true → (m4_ : Value) = v117)) HT_.out HW_.out (by kernel_rfl) (by kernel_rfl) ?_ ?_ ?_
      ·exact ⟨.bool false, .bool false, by simp only [putSel, Bool.false_eq_true, if_false], BK109.out, BK110.out, BK111.out, fun _ => BK112.out, BK115.out, HB.out, fun h_ => absurd h_ (by decide), fun h_ => absurd h_ (by decide), fun h_ => absurd h_ (by decide)⟩
      ·skip
       clear BK109 BK110 BK111 BK112 BK115 HB
       refine steps_cons ?_ ?_
       ·rintro b a w' ⟨v117, m4_, ha, Q_BK109, Q_BK110, Q_BK111, Q_BK112, Q_BK115, Q_HB, Q_HO118, Q_BK112_e3, Q_X4_⟩ hb_ hon hoff
        refine ⟨_, rfl, fun K hK => ?_⟩
        have e4 : a.tmps[4]? = some (.pointer (some ⟨gb110, 0, none⟩)) := by rw [ha]; exact (putSel_off rfl).trans rfl
        replace ha := Aside0.mk ha
        have BK109 := Aside0.mk Q_BK109
        have BK110 := Aside0.mk Q_BK110
        have BK111 := Aside0.mk Q_BK111
        have BK112 := Aside0.mk (Q_BK112 (hoff 3 (by kernel_rfl)))
        have BK115 := Aside0.mk Q_BK115
        have HB := Aside0.mk Q_HB
        have hc0_ : w'.cell? ⟨gb110, 0, none⟩ = some (.int .i64 a1_0) := (blk_cell BK110.out 0).trans rfl
        have hc1_ : w'.cell? ⟨gb110, 1, none⟩ = some (.int .i64 a2_1) := (blk_cell BK110.out 1).trans rfl
        have hc2_ : w'.cell? ⟨gb110, 2, none⟩ = some (.int .i64 a1_2) := (blk_cell BK110.out 2).trans rfl
        have hc3_ : w'.cell? ⟨gb110, 3, none⟩ = some (.int .i64 0) := (blk_cell BK110.out 3).trans rfl
        have hc4_ : w'.cell? ⟨gb110, 4, none⟩ = some (.int .i64 a1_4) := (blk_cell BK110.out 4).trans rfl
        have hc5_ : w'.cell? ⟨gb110, 5, none⟩ = some (.int .i64 a1_5) := (blk_cell BK110.out 5).trans rfl
        have hc6_ : w'.cell? ⟨gb110, 6, none⟩ = some (.int .i64 a1_6) := (blk_cell BK110.out 6).trans rfl
        have hc7_ : w'.cell? ⟨gb110, 7, none⟩ = some (.string a1_7) := (blk_cell BK110.out 7).trans rfl
        refine value_ (w1 := w') (v := .agg #[.int .i64 a1_0, .int .i64 a2_1, .int .i64 a1_2, .int .i64 0, .int .i64 a1_4, .int .i64 a1_5, .int .i64 a1_6, .string a1_7]) (by rfl) rfl ?_ ?_
        ·go_simp
         (try simp only [i64_w, u8_w, u32_w, w64_m8, w64_m32])
         try rfl
        refine hK.out _ _ ⟨v117, m4_, (by rw [ha.out]; exact putSel_upk 0 hb_ rfl rfl rfl), Q_BK109, Q_BK110, Q_BK111, Q_BK112, Q_BK115, Q_HB, Q_HO118, fun h0_ => absurd ((hoff 3 (by kernel_rfl)).symm.trans h0_) (by decide), fun h0_ => absurd ((hoff 4 (by kernel_rfl)).symm.trans h0_) (by decide)⟩
       refine steps_cons ?_ ?_
       ·rintro b a w' ⟨v117, m4_, ha, Q_BK109, Q_BK110, Q_BK111, Q_BK112, Q_BK115, Q_HB, Q_HO118, Q_BK112_e3, Q_X4_⟩ hb_ hon hoff
        refine ⟨_, rfl, fun K hK => ?_⟩
        have e8 : a.tmps[8]? = some (.pointer (some ⟨gb115, 0, none⟩)) := by rw [ha]; exact (putSel_off rfl).trans rfl
        replace ha := Aside0.mk ha
        have BK109 := Aside0.mk Q_BK109
        have BK110 := Aside0.mk Q_BK110
        have BK111 := Aside0.mk Q_BK111
        have BK115 := Aside0.mk Q_BK115
        have HB := Aside0.mk Q_HB
        have hc0_ : w'.cell? ⟨gb115, 0, none⟩ = some (.int .i64 2) := (blk_cell BK115.out 0).trans rfl
        have hc1_ : w'.cell? ⟨gb115, 1, none⟩ = some (.int .i64 a2_1) := (blk_cell BK115.out 1).trans rfl
        have hc2_ : w'.cell? ⟨gb115, 2, none⟩ = some (.int .i64 a2_2) := (blk_cell BK115.out 2).trans rfl
        have hc3_ : w'.cell? ⟨gb115, 3, none⟩ = some (.int .i64 a2_3) := (blk_cell BK115.out 3).trans rfl
        have hc4_ : w'.cell? ⟨gb115, 4, none⟩ = some (.int .i64 a2_4) := (blk_cell BK115.out 4).trans rfl
        have hc5_ : w'.cell? ⟨gb115, 5, none⟩ = some (.string (⟨#[]⟩ : ByteArray)) := (blk_cell BK115.out 5).trans rfl
        have hc6_ : w'.cell? ⟨gb115, 6, none⟩ = some (.int .i64 a2_6) := (blk_cell BK115.out 6).trans rfl
        refine value_ (w1 := w') (v := .agg #[.int .i64 2, .int .i64 a2_1, .int .i64 a2_2, .int .i64 a2_3, .int .i64 a2_4, .string (⟨#[]⟩ : ByteArray), .int .i64 a2_6]) (by rfl) rfl ?_ ?_
        ·go_simp
         (try simp only [i64_w, u8_w, u32_w, w64_m8, w64_m32])
         try rfl
        refine hK.out _ _ ⟨v117, m4_, (by rw [ha.out]; exact putSel_upk 1 hb_ rfl rfl rfl), Q_BK109, Q_BK110, Q_BK111, Q_BK112, Q_BK115, Q_HB, fun h0_ => absurd ((hoff 2 (by kernel_rfl)).symm.trans h0_) (by decide), Q_BK112_e3, fun h0_ => absurd ((hoff 4 (by kernel_rfl)).symm.trans h0_) (by decide)⟩
       refine steps_cons ?_ ?_
       ·rintro b a w' ⟨v117, m4_, ha, Q_BK109, Q_BK110, Q_BK111, Q_BK112, Q_BK115, Q_HB, Q_HO118, Q_BK112_e3, Q_X4_⟩ hb_ hon hoff
        refine ⟨_, rfl, fun K hK => ?_⟩
        have e39 : a.tmps[39]? = some (.agg #[.int .i64 2, .int .i64 a2_1, .int .i64 a2_2, .int .i64 a2_3, .int .i64 a2_4, .string (⟨#[]⟩ : ByteArray), .int .i64 a2_6]) := by rw [ha]; exact putSel_on (e := (1, 39, .agg #[.int .i64 2, .int .i64 a2_1, .int .i64 a2_2, .int .i64 a2_3, .int .i64 a2_4, .string (⟨#[]⟩ : ByteArray), .int .i64 a2_6])) 1 rfl rfl (hon 1 (by kernel_rfl)) rfl
        replace ha := Aside0.mk ha
        have BK109 := Aside0.mk Q_BK109
        have BK110 := Aside0.mk Q_BK110
        have BK111 := Aside0.mk Q_BK111
        have BK115 := Aside0.mk Q_BK115
        have HB := Aside0.mk Q_HB
        refine Kd.R_lit_step k33 _ 33 ?hg (N := 40) ?hd (xs := ([(⟨2, a2_1, a2_2, a2_3, a2_4, (⟨#[]⟩ : ByteArray), a2_6⟩ : S33)] : List (S33))) (inner := [.int .i64 2, .int .i64 a2_1, .int .i64 a2_2, .int .i64 a2_3, .int .i64 a2_4, .string (⟨#[]⟩ : ByteArray), .int .i64 a2_6]) (ok := fun _ => True) (okp := fun _ => True) ?hr ?hp (fun _ hk => hk) trivial (Below.refl _ _) (Nat.le_refl _) (by simp) ?_; (case hd => rfl); (case hg => rfl); (case hr => first | (go_simp; done) | (go_simp; rfl)); (case hp => exact (Reps.c7 (show Kd.M k33 _ _ _ (⟨2, a2_1, a2_2, a2_3, a2_4, (⟨#[]⟩ : ByteArray), a2_6⟩ : S33) [.int .i64 2, .int .i64 a2_1, .int .i64 a2_2, .int .i64 a2_3, .int .i64 a2_4, .string (⟨#[]⟩ : ByteArray), .int .i64 a2_6] from (k33_mkM _ _ _ (⟨2, a2_1, a2_2, a2_3, a2_4, (⟨#[]⟩ : ByteArray), a2_6⟩ : S33) )) (Reps.none _ _)))
        intro v117 w141 ho142 hb hg_ hnew_
        clear hg_ hnew_
        (first | rw [← Ny116.out] at ho142 | (simp only [Int.reduceToNat] at ho142; rw [← Ny116.out] at ho142))
        have n0_ := Aside0.mk (Kd.R_lower (Kd.R_newB (Kd.R_newB ho142 (g := gb111) (o := .cells #[.int .i64 a2_0, .int .i64 a2_1, .int .i64 a2_2, .int .i64 a2_3, .int .i64 a2_4, .string a2_5, .int .i64 a2_6] 33 (0, 0)) (bkw BK111.out)) (g := gb115) (o := .cells #[.int .i64 2, .int .i64 a2_1, .int .i64 a2_2, .int .i64 a2_3, .int .i64 a2_4, .string (⟨#[]⟩ : ByteArray), .int .i64 a2_6] 33 (0, 0)) (bkw BK115.out)) (below_size (hbw HB.out)))
        have n1_ := Aside0.mk (blkb BK109.out hb)
        have n2_ := Aside0.mk (blkb BK110.out hb)
        have n3_ := Aside0.mk (blkb BK111.out hb)
        have n5_ := Aside0.mk (blkb BK115.out hb)
        have n6_ := Aside0.mk (below_step (hbw HB.out) hb)
        have z_BK112 := fun (h0_ : b 3 = false) => (show w141.heap[gb112]? = some (.cells #[.int .i64 x113000_27, .int .i64 x113001_27, .int .i64 x113002_27, .int .i64 x113003_27, .int .i64 x113004_27, .int .i64 x113005_27, .int .i64 x113006_27, .string x113007_27] 28 (0, 0)) from by first | exact (blk_below (g := gb112) (o := .cells #[.int .i64 x113000_27, .int .i64 x113001_27, .int .i64 x113002_27, .int .i64 x113003_27, .int .i64 x113004_27, .int .i64 x113005_27, .int .i64 x113006_27, .string x113007_27] 28 (0, 0)) (by (with_reducible repeat (first | refine blk_drewN ?_ _ | refine blk_drew ?_ | refine blk_alloc ?_ _)); exact (Q_BK112 h0_)) hb))
        have z_BK112_e3 := fun (h0_ : b 3 = true) => (show w141.heap[gb112]? = some (.cells #[.int .i64 a1_0, .int .i64 a2_1, .int .i64 a1_2, .int .i64 0, .int .i64 a1_4, .int .i64 a1_5, .int .i64 a1_6, .string a1_7] 28 (0, 0)) from by first | exact (blk_below (g := gb112) (o := .cells #[.int .i64 a1_0, .int .i64 a2_1, .int .i64 a1_2, .int .i64 0, .int .i64 a1_4, .int .i64 a1_5, .int .i64 a1_6, .string a1_7] 28 (0, 0)) (by (with_reducible repeat (first | refine blk_drewN ?_ _ | refine blk_drew ?_ | refine blk_alloc ?_ _)); exact (Q_BK112_e3 h0_)) hb))
        clear BK109
        clear BK110
        clear BK111
        clear BK115
        clear HB
        have HO118 := n0_
        have BK109 := n1_
        have BK110 := n2_
        have BK111 := n3_
        have BK115 := n5_
        have HB := n6_
        clear n0_ n1_ n2_ n3_ n5_ n6_
        clear hb ho142
        refine hK.out _ _ ⟨v117, m4_, (by rw [ha.out]; exact putSel_upk 2 hb_ rfl rfl rfl), (bkw BK109.out), (bkw BK110.out), (bkw BK111.out), z_BK112, (bkw BK115.out), (hbw HB.out), fun _ => (by (with_reducible repeat (first | apply Kd.R_alloc | apply Kd.R_drewN | apply Kd.R_drew)); exact Kd.R_mono HO118.out (fun _ hk => ⟨hk.1.2, hk.2⟩)), z_BK112_e3, fun h0_ => absurd ((hoff 4 (by kernel_rfl)).symm.trans h0_) (by decide)⟩
       refine steps_cons ?_ ?_
       ·rintro b a w' ⟨v117, m4_, ha, Q_BK109, Q_BK110, Q_BK111, Q_BK112, Q_BK115, Q_HB, Q_HO118, Q_BK112_e3, Q_X4_⟩ hb_ hon hoff
        refine ⟨_, rfl, fun K hK => ?_⟩
        have e6 : a.tmps[6]? = some (.pointer (some ⟨gb112, 0, none⟩)) := by rw [ha]; exact (putSel_off rfl).trans rfl
        have e38 : a.tmps[38]? = some (.agg #[.int .i64 a1_0, .int .i64 a2_1, .int .i64 a1_2, .int .i64 0, .int .i64 a1_4, .int .i64 a1_5, .int .i64 a1_6, .string a1_7]) := by rw [ha]; exact putSel_on (e := (0, 38, .agg #[.int .i64 a1_0, .int .i64 a2_1, .int .i64 a1_2, .int .i64 0, .int .i64 a1_4, .int .i64 a1_5, .int .i64 a1_6, .string a1_7])) 0 rfl rfl (hon 0 (by kernel_rfl)) rfl
        replace ha := Aside0.mk ha
        have BK109 := Aside0.mk Q_BK109
        have BK110 := Aside0.mk Q_BK110
        have BK111 := Aside0.mk Q_BK111
        have BK112 := Aside0.mk (Q_BK112 hb_)
        have BK115 := Aside0.mk Q_BK115
        have HB := Aside0.mk Q_HB
        have hs141 : w'.cell? ⟨gb112, 0, none⟩ = some (.int .i64 x113000_27) := (blk_cell BK112.out 0).trans rfl
        have hfs141 := blk_frozen BK112.out 0
        have hns141_0 := NB109_112.out
        have hns141_1 := NB110_112.out
        have hns141_2 := NB111_112.out
        have hns141_4 := NB115_112.out
        have hms141_0 := NB112_109.out
        have hms141_1 := NB112_110.out
        have hms141_2 := NB112_111.out
        have hms141_4 := NB112_115.out
        have hs142 : w'.cell? ⟨gb112, 1, none⟩ = some (.int .i64 x113001_27) := (blk_cell BK112.out 1).trans rfl
        have hfs142 := blk_frozen BK112.out 1
        have hns142_0 := NB109_112.out
        have hns142_1 := NB110_112.out
        have hns142_2 := NB111_112.out
        have hns142_4 := NB115_112.out
        have hms142_0 := NB112_109.out
        have hms142_1 := NB112_110.out
        have hms142_2 := NB112_111.out
        have hms142_4 := NB112_115.out
        have hs143 : w'.cell? ⟨gb112, 2, none⟩ = some (.int .i64 x113002_27) := (blk_cell BK112.out 2).trans rfl
        have hfs143 := blk_frozen BK112.out 2
        have hns143_0 := NB109_112.out
        have hns143_1 := NB110_112.out
        have hns143_2 := NB111_112.out
        have hns143_4 := NB115_112.out
        have hms143_0 := NB112_109.out
        have hms143_1 := NB112_110.out
        have hms143_2 := NB112_111.out
        have hms143_4 := NB112_115.out
        have hs144 : w'.cell? ⟨gb112, 3, none⟩ = some (.int .i64 x113003_27) := (blk_cell BK112.out 3).trans rfl
        have hfs144 := blk_frozen BK112.out 3
        have hns144_0 := NB109_112.out
        have hns144_1 := NB110_112.out
        have hns144_2 := NB111_112.out
        have hns144_4 := NB115_112.out
        have hms144_0 := NB112_109.out
        have hms144_1 := NB112_110.out
        have hms144_2 := NB112_111.out
        have hms144_4 := NB112_115.out
        have hs145 : w'.cell? ⟨gb112, 4, none⟩ = some (.int .i64 x113004_27) := (blk_cell BK112.out 4).trans rfl
        have hfs145 := blk_frozen BK112.out 4
        have hns145_0 := NB109_112.out
        have hns145_1 := NB110_112.out
        have hns145_2 := NB111_112.out
        have hns145_4 := NB115_112.out
        have hms145_0 := NB112_109.out
        have hms145_1 := NB112_110.out
        have hms145_2 := NB112_111.out
        have hms145_4 := NB112_115.out
        have hs146 : w'.cell? ⟨gb112, 5, none⟩ = some (.int .i64 x113005_27) := (blk_cell BK112.out 5).trans rfl
        have hfs146 := blk_frozen BK112.out 5
        have hns146_0 := NB109_112.out
        have hns146_1 := NB110_112.out
        have hns146_2 := NB111_112.out
        have hns146_4 := NB115_112.out
        have hms146_0 := NB112_109.out
        have hms146_1 := NB112_110.out
        have hms146_2 := NB112_111.out
        have hms146_4 := NB112_115.out
        have hs147 : w'.cell? ⟨gb112, 6, none⟩ = some (.int .i64 x113006_27) := (blk_cell BK112.out 6).trans rfl
        have hfs147 := blk_frozen BK112.out 6
        have hns147_0 := NB109_112.out
        have hns147_1 := NB110_112.out
        have hns147_2 := NB111_112.out
        have hns147_4 := NB115_112.out
        have hms147_0 := NB112_109.out
        have hms147_1 := NB112_110.out
        have hms147_2 := NB112_111.out
        have hms147_4 := NB112_115.out
        have hs148 : w'.cell? ⟨gb112, 7, none⟩ = some (.string x113007_27) := (blk_cell BK112.out 7).trans rfl
        have hfs148 := blk_frozen BK112.out 7
        have hns148_0 := NB109_112.out
        have hns148_1 := NB110_112.out
        have hns148_2 := NB111_112.out
        have hns148_4 := NB115_112.out
        have hms148_0 := NB112_109.out
        have hms148_1 := NB112_110.out
        have hms148_2 := NB112_111.out
        have hms148_4 := NB112_115.out
        refine skip_ (w1 := ?_) (by rfl) rfl ?_ ?_
        rotate_left
        ·go_simp
         rfl
        refine hK.out _ _ ⟨v117, m4_, (by rw [ha.out]; exact putSel_none (v := undef) rfl), (by (with_reducible repeat (first | refine blk_drewN ?_ _ | refine blk_drew ?_ | refine blk_alloc ?_ _)); refine blk_far ?_ NB109_112.out _; (with_reducible repeat (first | refine blk_drewN ?_ _ | refine blk_drew ?_ | refine blk_alloc ?_ _)); refine blk_far ?_ NB109_112.out _; (with_reducible repeat (first | refine blk_drewN ?_ _ | refine blk_drew ?_ | refine blk_alloc ?_ _)); refine blk_far ?_ NB109_112.out _; (with_reducible repeat (first | refine blk_drewN ?_ _ | refine blk_drew ?_ | refine blk_alloc ?_ _)); refine blk_far ?_ NB109_112.out _; (with_reducible repeat (first | refine blk_drewN ?_ _ | refine blk_drew ?_ | refine blk_alloc ?_ _)); refine blk_far ?_ NB109_112.out _; (with_reducible repeat (first | refine blk_drewN ?_ _ | refine blk_drew ?_ | refine blk_alloc ?_ _)); refine blk_far ?_ NB109_112.out _; (with_reducible repeat (first | refine blk_drewN ?_ _ | refine blk_drew ?_ | refine blk_alloc ?_ _)); refine blk_far ?_ NB109_112.out _; (with_reducible repeat (first | refine blk_drewN ?_ _ | refine blk_drew ?_ | refine blk_alloc ?_ _)); refine blk_far ?_ NB109_112.out _; (with_reducible repeat (first | refine blk_drewN ?_ _ | refine blk_drew ?_ | refine blk_alloc ?_ _)); exact BK109.out), (by (with_reducible repeat (first | refine blk_drewN ?_ _ | refine blk_drew ?_ | refine blk_alloc ?_ _)); refine blk_far ?_ NB110_112.out _; (with_reducible repeat (first | refine blk_drewN ?_ _ | refine blk_drew ?_ | refine blk_alloc ?_ _)); refine blk_far ?_ NB110_112.out _; (with_reducible repeat (first | refine blk_drewN ?_ _ | refine blk_drew ?_ | refine blk_alloc ?_ _)); refine blk_far ?_ NB110_112.out _; (with_reducible repeat (first | refine blk_drewN ?_ _ | refine blk_drew ?_ | refine blk_alloc ?_ _)); refine blk_far ?_ NB110_112.out _; (with_reducible repeat (first | refine blk_drewN ?_ _ | refine blk_drew ?_ | refine blk_alloc ?_ _)); refine blk_far ?_ NB110_112.out _; (with_reducible repeat (first | refine blk_drewN ?_ _ | refine blk_drew ?_ | refine blk_alloc ?_ _)); refine blk_far ?_ NB110_112.out _; (with_reducible repeat (first | refine blk_drewN ?_ _ | refine blk_drew ?_ | refine blk_alloc ?_ _)); refine blk_far ?_ NB110_112.out _; (with_reducible repeat (first | refine blk_drewN ?_ _ | refine blk_drew ?_ | refine blk_alloc ?_ _)); refine blk_far ?_ NB110_112.out _; (with_reducible repeat (first | refine blk_drewN ?_ _ | refine blk_drew ?_ | refine blk_alloc ?_ _)); exact BK110.out), (by (with_reducible repeat (first | refine blk_drewN ?_ _ | refine blk_drew ?_ | refine blk_alloc ?_ _)); refine blk_far ?_ NB111_112.out _; (with_reducible repeat (first | refine blk_drewN ?_ _ | refine blk_drew ?_ | refine blk_alloc ?_ _)); refine blk_far ?_ NB111_112.out _; (with_reducible repeat (first | refine blk_drewN ?_ _ | refine blk_drew ?_ | refine blk_alloc ?_ _)); refine blk_far ?_ NB111_112.out _; (with_reducible repeat (first | refine blk_drewN ?_ _ | refine blk_drew ?_ | refine blk_alloc ?_ _)); refine blk_far ?_ NB111_112.out _; (with_reducible repeat (first | refine blk_drewN ?_ _ | refine blk_drew ?_ | refine blk_alloc ?_ _)); refine blk_far ?_ NB111_112.out _; (with_reducible repeat (first | refine blk_drewN ?_ _ | refine blk_drew ?_ | refine blk_alloc ?_ _)); refine blk_far ?_ NB111_112.out _; (with_reducible repeat (first | refine blk_drewN ?_ _ | refine blk_drew ?_ | refine blk_alloc ?_ _)); refine blk_far ?_ NB111_112.out _; (with_reducible repeat (first | refine blk_drewN ?_ _ | refine blk_drew ?_ | refine blk_alloc ?_ _)); refine blk_far ?_ NB111_112.out _; (with_reducible repeat (first | refine blk_drewN ?_ _ | refine blk_drew ?_ | refine blk_alloc ?_ _)); exact BK111.out), fun h0_ => absurd ((up_self b 3).symm.trans h0_) (by decide), (by (with_reducible repeat (first | refine blk_drewN ?_ _ | refine blk_drew ?_ | refine blk_alloc ?_ _)); refine blk_far ?_ NB115_112.out _; (with_reducible repeat (first | refine blk_drewN ?_ _ | refine blk_drew ?_ | refine blk_alloc ?_ _)); refine blk_far ?_ NB115_112.out _; (with_reducible repeat (first | refine blk_drewN ?_ _ | refine blk_drew ?_ | refine blk_alloc ?_ _)); refine blk_far ?_ NB115_112.out _; (with_reducible repeat (first | refine blk_drewN ?_ _ | refine blk_drew ?_ | refine blk_alloc ?_ _)); refine blk_far ?_ NB115_112.out _; (with_reducible repeat (first | refine blk_drewN ?_ _ | refine blk_drew ?_ | refine blk_alloc ?_ _)); refine blk_far ?_ NB115_112.out _; (with_reducible repeat (first | refine blk_drewN ?_ _ | refine blk_drew ?_ | refine blk_alloc ?_ _)); refine blk_far ?_ NB115_112.out _; (with_reducible repeat (first | refine blk_drewN ?_ _ | refine blk_drew ?_ | refine blk_alloc ?_ _)); refine blk_far ?_ NB115_112.out _; (with_reducible repeat (first | refine blk_drewN ?_ _ | refine blk_drew ?_ | refine blk_alloc ?_ _)); refine blk_far ?_ NB115_112.out _; (with_reducible repeat (first | refine blk_drewN ?_ _ | refine blk_drew ?_ | refine blk_alloc ?_ _)); exact BK115.out), (hbw HB.out), fun h0_ => (by (with_reducible repeat (first | apply Kd.R_alloc | apply Kd.R_drewN | apply Kd.R_drew)); exact Kd.R_mono (Kd.R_far (p := ⟨gb112, 7, none⟩) (Kd.R_far (p := ⟨gb112, 6, none⟩) (Kd.R_far (p := ⟨gb112, 5, none⟩) (Kd.R_far (p := ⟨gb112, 4, none⟩) (Kd.R_far (p := ⟨gb112, 3, none⟩) (Kd.R_far (p := ⟨gb112, 2, none⟩) (Kd.R_far (p := ⟨gb112, 1, none⟩) (Kd.R_far (p := ⟨gb112, 0, none⟩) (Kd.R_types (Q_HO118 h0_) BK112.out (by decide)) (fun _ hk => hk.2) (.int .i64 a1_0)) (fun _ hk => hk.2) (.int .i64 a2_1)) (fun _ hk => hk.2) (.int .i64 a1_2)) (fun _ hk => hk.2) (.int .i64 0)) (fun _ hk => hk.2) (.int .i64 a1_4)) (fun _ hk => hk.2) (.int .i64 a1_5)) (fun _ hk => hk.2) (.int .i64 a1_6)) (fun _ hk => hk.2) (.string a1_7)) (fun _ hk => ⟨hk.1.1, hk.1.2⟩)), fun _ => (by (with_reducible repeat (first | refine blk_drewN ?_ _ | refine blk_drew ?_ | refine blk_alloc ?_ _)); refine blk_put (cs := #[.int .i64 a1_0, .int .i64 a2_1, .int .i64 a1_2, .int .i64 0, .int .i64 a1_4, .int .i64 a1_5, .int .i64 a1_6, .string x113007_27]) ?_ 7 _ rfl; (with_reducible repeat (first | refine blk_drewN ?_ _ | refine blk_drew ?_ | refine blk_alloc ?_ _)); refine blk_put (cs := #[.int .i64 a1_0, .int .i64 a2_1, .int .i64 a1_2, .int .i64 0, .int .i64 a1_4, .int .i64 a1_5, .int .i64 x113006_27, .string x113007_27]) ?_ 6 _ rfl; (with_reducible repeat (first | refine blk_drewN ?_ _ | refine blk_drew ?_ | refine blk_alloc ?_ _)); refine blk_put (cs := #[.int .i64 a1_0, .int .i64 a2_1, .int .i64 a1_2, .int .i64 0, .int .i64 a1_4, .int .i64 x113005_27, .int .i64 x113006_27, .string x113007_27]) ?_ 5 _ rfl; (with_reducible repeat (first | refine blk_drewN ?_ _ | refine blk_drew ?_ | refine blk_alloc ?_ _)); refine blk_put (cs := #[.int .i64 a1_0, .int .i64 a2_1, .int .i64 a1_2, .int .i64 0, .int .i64 x113004_27, .int .i64 x113005_27, .int .i64 x113006_27, .string x113007_27]) ?_ 4 _ rfl; (with_reducible repeat (first | refine blk_drewN ?_ _ | refine blk_drew ?_ | refine blk_alloc ?_ _)); refine blk_put (cs := #[.int .i64 a1_0, .int .i64 a2_1, .int .i64 a1_2, .int .i64 x113003_27, .int .i64 x113004_27, .int .i64 x113005_27, .int .i64 x113006_27, .string x113007_27]) ?_ 3 _ rfl; (with_reducible repeat (first | refine blk_drewN ?_ _ | refine blk_drew ?_ | refine blk_alloc ?_ _)); refine blk_put (cs := #[.int .i64 a1_0, .int .i64 a2_1, .int .i64 x113002_27, .int .i64 x113003_27, .int .i64 x113004_27, .int .i64 x113005_27, .int .i64 x113006_27, .string x113007_27]) ?_ 2 _ rfl; (with_reducible repeat (first | refine blk_drewN ?_ _ | refine blk_drew ?_ | refine blk_alloc ?_ _)); refine blk_put (cs := #[.int .i64 a1_0, .int .i64 x113001_27, .int .i64 x113002_27, .int .i64 x113003_27, .int .i64 x113004_27, .int .i64 x113005_27, .int .i64 x113006_27, .string x113007_27]) ?_ 1 _ rfl; (with_reducible repeat (first | refine blk_drewN ?_ _ | refine blk_drew ?_ | refine blk_alloc ?_ _)); refine blk_put (cs := #[.int .i64 x113000_27, .int .i64 x113001_27, .int .i64 x113002_27, .int .i64 x113003_27, .int .i64 x113004_27, .int .i64 x113005_27, .int .i64 x113006_27, .string x113007_27]) ?_ 0 _ rfl; (with_reducible repeat (first | refine blk_drewN ?_ _ | refine blk_drew ?_ | refine blk_alloc ?_ _)); exact BK112.out), fun h0_ => absurd ((hoff 4 (by kernel_rfl)).symm.trans h0_) (by decide)⟩
       refine steps_cons ?_ ?_
       ·rintro b a w' ⟨v117, m4_, ha, Q_BK109, Q_BK110, Q_BK111, Q_BK112, Q_BK115, Q_HB, Q_HO118, Q_BK112_e3, Q_X4_⟩ hb_ hon hoff
        refine ⟨_, rfl, fun K hK => ?_⟩
        have e40 : a.tmps[40]? = some (v117) := by rw [ha]; exact putSel_on (e := (2, 40, v117)) 2 rfl rfl (hon 2 (by kernel_rfl)) rfl
        replace ha := Aside0.mk ha
        have BK109 := Aside0.mk Q_BK109
        have BK110 := Aside0.mk Q_BK110
        have BK111 := Aside0.mk Q_BK111
        have BK115 := Aside0.mk Q_BK115
        have HB := Aside0.mk Q_HB
        have HO118 := Aside0.mk (Q_HO118 (hon 2 (by kernel_rfl)))
        have BK112 := Aside0.mk (Q_BK112_e3 (hon 3 (by kernel_rfl)))
        refine value_ (w1 := w') (v := v117) (by rfl) rfl ?_ ?_
        ·go_simp
         (try simp only [i64_w, u8_w, u32_w, w64_m8, w64_m32])
         try rfl
        refine hK.out _ _ ⟨v117, (v117), (by rw [ha.out]; exact putSel_upk 3 hb_ rfl rfl rfl), Q_BK109, Q_BK110, Q_BK111, fun h0_ => absurd ((hon 3 (by kernel_rfl)).symm.trans h0_) (by decide), Q_BK115, Q_HB, Q_HO118, Q_BK112_e3, fun _ => rfl⟩
       exact steps_nil
      rintro b a w151 hall ⟨v117, m4_, ha, Q_BK109, Q_BK110, Q_BK111, Q_BK112, Q_BK115, Q_HB, Q_HO118, Q_BK112_e3, Q_X4_⟩
      clear BK109 BK110 BK111 BK112 BK115 HB
      have hb0_ := hall 0 (by kernel_rfl)
      have hb1_ := hall 1 (by kernel_rfl)
      have hb2_ := hall 2 (by kernel_rfl)
      have hb3_ := hall 3 (by kernel_rfl)
      have hb4_ := hall 4 (by kernel_rfl)
      subst ha
      obtain rfl := Q_X4_ hb4_
      simp only [putSel, hb0_, hb1_, hb2_, hb3_, hb4_, if_true, Act.put, List.setIfInBounds_toArray, List.set_cons_zero, List.set_cons_succ]
      have BK109 := Aside0.mk Q_BK109
      clear Q_BK109
      have BK110 := Aside0.mk Q_BK110
      clear Q_BK110
      have BK111 := Aside0.mk Q_BK111
      clear Q_BK111
      clear Q_BK112
      have BK115 := Aside0.mk Q_BK115
      clear Q_BK115
      have HB := Aside0.mk Q_HB
      clear Q_HB
      have HO118 := Aside0.mk (Q_HO118 hb2_)
      clear Q_HO118
      have BK112 := Aside0.mk (Q_BK112_e3 hb3_)
      clear Q_BK112_e3
      clear hall hb0_ hb1_ hb2_ hb3_ hb4_
      try go_wp2
      refine bodyPost_ret (results_ct rfl _ _ gb112 28 #[.int .i64 a1_0, .int .i64 a2_1, .int .i64 a1_2, .int .i64 0, .int .i64 a1_4, .int .i64 a1_5, .int .i64 a1_6, .string a1_7] (0, 0) _ rfl (bkw BK112.out) Try.underlying28 rfl (by kernel_rfl)) rfl ?_
      exact ⟨_, by first | rfl | (simp [errW_none, errW_some] <;> rfl) | (simp [*, errW_none, errW_some] <;> rfl), by (with_reducible repeat (first | apply Kd.R_alloc | apply Kd.R_drewN | apply Kd.R_drew)); exact Kd.R_mono HO118.out (fun _ hk => trivial), by repeat (first | (with_reducible first | exact HB.out | apply below_alloc | apply pw_below_drewN | apply below_drew1 | refine below_set ?_ GE109.out | refine below_set ?_ GE110.out | refine below_set ?_ GE111.out | refine below_set ?_ GE112.out | refine below_set ?_ GE115.out) | exact HB.out)⟩

end Go.Proofs.Ytpgeomgaphodkaa.PStuffFaults
