-- Written by a program of this session (wip/tools/pr.py), which calls the kit's print with changes of its own.
import Derived.Test.YtjgfhccibljkbaaPNrziInvertsx0
import Derived.Test.YtjgfhccibljkbaaPNrziInvertsx2
namespace Go.Proofs.Ytjgfhccibljkbaa.PNrziInverts
open Go.RowKit Go.Proofs.YtjgfhccibljkbaaW.PrintWords Go.Proofs.YtjgfhccibljkbaaW.PrintLast Go.Proofs.YtjgfhccibljkbaaW.PrintMore
attribute [local go_sem] max2_int min2_int max_two min_two max_three min_three max_four min_four   -- for this text's walks alone
set_option linter.unusedVariables false
set_option linter.unusedSimpArgs false

/-! ### nrzi_Step: function 12 -/
def nrzi_Step.f (k : Nat) (a0_0 : Bool) (a1_0 : Int) (a1_1 : Int) (a1_2 : Int) (a1_3 : Int) (a1_4 : Int) (a1_5 : Int) (a1_6 : Int) (a1_7 : ByteArray) (a2_0 : Int) (a2_1 : Int) (a2_2 : Int) (a2_3 : Int) (a2_4 : Int) (a2_5 : ByteArray) (a2_6 : Int) : Option (Int × Int × Int × Int × Int × Int × Int × ByteArray × (List (S33))) := (nrzi_accepts.f k a1_0 a1_1 a1_2 a1_3 a1_4 a1_5 a1_6 a1_7 a2_0 a2_1 a2_2 a2_3 a2_4 a2_5 a2_6).bind fun t113 => (if t113 = true then ((nrzi_meaning.f a0_0 (a2_3 != a1_6)).bind fun t114 => (some (a1_0, a2_1, a1_2, a1_3, a1_4, a1_5, a2_3, a1_7, (([(⟨2, a2_1, a2_2, t114, a2_4, (⟨#[]⟩ : ByteArray), a2_6⟩ : S33)] : List (S33)))))) else (some (a1_0, a1_1, a1_2, a1_3, a1_4, a1_5, a1_6, a1_7, ([] : List (S33)))))
theorem nrzi_Step.mono : ∀ a0 a1 a2 a3 a4 a5 a6 a7 a8 a9 a10 a11 a12 a13 a14 a15 k, LeO (nrzi_Step.f k a0 a1 a2 a3 a4 a5 a6 a7 a8 a9 a10 a11 a12 a13 a14 a15) (nrzi_Step.f (k + 1) a0 a1 a2 a3 a4 a5 a6 a7 a8 a9 a10 a11 a12 a13 a14 a15) := by
 intro a0 a1 a2 a3 a4 a5 a6 a7 a8 a9 a10 a11 a12 a13 a14 a15 k
 unfold nrzi_Step.f
 repeat' first
   | (with_reducible exact nrzi_accepts.mono _ _ _ _ _ _ _ _ _ _ _ _ _ _ _ _)
   | (with_reducible exact LeO.refl _)
   | (with_reducible exact LeO.none _)
   | (with_reducible refine LeO.ite ?_ ?_)
   | (with_reducible refine LeO.bind ?_ (fun _ => ?_))
   | exact nrzi_accepts.mono _ _ _ _ _ _ _ _ _ _ _ _ _ _ _ _
   | exact LeO.none _
   | refine LeO.ite ?_ ?_
   | refine LeO.bind ?_ (fun _ => ?_)
def nrzi_Step.T3 : Bool × List (List Nat × List Nat) := (true, [([], []), ([0], [0]), ([], []), ([2], [2]), ([], []), ([], []), ([5], [5]), ([], []), ([7], [7]), ([6, 8], [6, 8]), ([4, 9], [4, 9]), ([], []), ([11], [11]), ([], []), ([13], [13]), ([1, 3, 10, 12, 14], [1, 3, 10, 12, 14]), ([], []), ([16, 15, 10, 0, 1, 2, 3, 4, 5, 6, 7, 8, 9, 10, 11, 12, 13, 14, 15, 16], [15, 16])])
def nrzi_Step.B3 : List Nat := [0, 1, 0, 4, 0, 0, 32, 0, 128, 480, 1008, 0, 2048, 0, 8192, 32767, 0, 131071]
theorem nrzi_Step.tab3 : rtab .any (opsOf Try.f12 3) = nrzi_Step.T3 := by kernel_rfl
theorem nrzi_Step.bits3 : waitsOk nrzi_Step.T3.2 nrzi_Step.B3 = true := by kernel_rfl
def nrzi_Step.T4 : Bool × List (List Nat × List Nat) := (true, [([], []), ([0], [0]), ([], []), ([2], [2]), ([0, 1], []), ([4, 1, 0, 1], [1, 4]), ([0, 1, 2, 3, 4, 5], []), ([6, 3, 5, 0, 1, 2, 3, 4, 5], [3, 6])])
def nrzi_Step.B4 : List Nat := [0, 1, 0, 4, 3, 19, 63, 127]
theorem nrzi_Step.tab4 : rtab .any (opsOf Try.f12 4) = nrzi_Step.T4 := by kernel_rfl
theorem nrzi_Step.bits4 : waitsOk nrzi_Step.T4.2 nrzi_Step.B4 = true := by kernel_rfl
def nrzi_Step.T5 : Bool × List (List Nat × List Nat) := (true, [([], []), ([], []), ([1], [1]), ([0, 0], [0]), ([2, 3, 0, 1, 2, 3], [2])])
def nrzi_Step.B5 : List Nat := [0, 0, 2, 1, 15]
theorem nrzi_Step.tab5 : rtab .any (opsOf Try.f12 5) = nrzi_Step.T5 := by kernel_rfl
theorem nrzi_Step.bits5 : waitsOk nrzi_Step.T5.2 nrzi_Step.B5 = true := by kernel_rfl
set_option maxHeartbeats 8000000 in
set_option maxRecDepth 100000 in
theorem nrzi_Step.calls (k : Nat) (a0_0 : Bool) (a1_0 : Int) (a1_1 : Int) (a1_2 : Int) (a1_3 : Int) (a1_4 : Int) (a1_5 : Int) (a1_6 : Int) (a1_7 : ByteArray) (a2_0 : Int) (a2_1 : Int) (a2_2 : Int) (a2_3 : Int) (a2_4 : Int) (a2_5 : ByteArray) (a2_6 : Int) (r1 : Int) (r2 : Int) (r3 : Int) (r4 : Int) (r5 : Int) (r6 : Int) (r7 : Int) (r8 : ByteArray) (r9 : List (S33)) (w : World) (h : nrzi_Step.f k a0_0 a1_0 a1_1 a1_2 a1_3 a1_4 a1_5 a1_6 a1_7 a2_0 a2_1 a2_2 a2_3 a2_4 a2_5 a2_6 = some (r1, r2, r3, r4, r5, r6, r7, r8, r9)) :
  Calls Try.prog 12 #[.agg #[.bool a0_0], .agg #[.int .i64 a1_0, .int .i64 a1_1, .int .i64 a1_2, .int .i64 a1_3, .int .i64 a1_4, .int .i64 a1_5, .int .i64 a1_6, .string a1_7], .agg #[.int .i64 a2_0, .int .i64 a2_1, .int .i64 a2_2, .int .i64 a2_3, .int .i64 a2_4, .string a2_5, .int .i64 a2_6]] w fun e w' => ∃ v8_ : Value, e = .returned (.tuple #[.agg #[.int .i64 r1, .int .i64 r2, .int .i64 r3, .int .i64 r4, .int .i64 r5, .int .i64 r6, .int .i64 r7, .string r8], v8_]) ∧ Kd.R k33 33 w' w.heap.size (fun _ => True) v8_ r9 ∧ Below w.heap.size w w' := by
 have hu23 := Try.underlying23
 have hu28 := Try.underlying28
 have hu33 := Try.underlying33
 have HB := Aside0.mk (Below.refl w.heap.size w)
 have H : ((nrzi_accepts.f k a1_0 a1_1 a1_2 a1_3 a1_4 a1_5 a1_6 a1_7 a2_0 a2_1 a2_2 a2_3 a2_4 a2_5 a2_6).bind fun t113 => (if t113 = true then ((nrzi_meaning.f a0_0 (a2_3 != a1_6)).bind fun t114 => (some (a1_0, a2_1, a1_2, a1_3, a1_4, a1_5, a2_3, a1_7, (([(⟨2, a2_1, a2_2, t114, a2_4, (⟨#[]⟩ : ByteArray), a2_6⟩ : S33)] : List (S33)))))) else (some (a1_0, a1_1, a1_2, a1_3, a1_4, a1_5, a1_6, a1_7, ([] : List (S33)))))) = some (r1, r2, r3, r4, r5, r6, r7, r8, r9) := h
 clear h
 replace H := Option.bind_eq_some_iff.mp H
 obtain ⟨t113, A40, H⟩ := H
 replace H : (if t113 = true then ((nrzi_meaning.f a0_0 (a2_3 != a1_6)).bind fun t114 => (some (a1_0, a2_1, a1_2, a1_3, a1_4, a1_5, a2_3, a1_7, (([(⟨2, a2_1, a2_2, t114, a2_4, (⟨#[]⟩ : ByteArray), a2_6⟩ : S33)] : List (S33)))))) else (some (a1_0, a1_1, a1_2, a1_3, a1_4, a1_5, a1_6, a1_7, ([] : List (S33))))) = some (r1, r2, r3, r4, r5, r6, r7, r8, r9) := H
 have A4 := Aside0.mk A40
 clear A40
 by_cases c5 : t113 = true
 ·subst c5
  have H1 : ((nrzi_meaning.f a0_0 (a2_3 != a1_6)).bind fun t114 => (some (a1_0, a2_1, a1_2, a1_3, a1_4, a1_5, a2_3, a1_7, (([(⟨2, a2_1, a2_2, t114, a2_4, (⟨#[]⟩ : ByteArray), a2_6⟩ : S33)] : List (S33)))))) = some (r1, r2, r3, r4, r5, r6, r7, r8, r9) := by rw [if_pos rfl] at H; exact H
  clear H
  have H := H1
  clear H1
  replace H := Option.bind_eq_some_iff.mp H
  obtain ⟨t114, A60, H⟩ := H
  replace H : (some (a1_0, a2_1, a1_2, a1_3, a1_4, a1_5, a2_3, a1_7, (([(⟨2, a2_1, a2_2, t114, a2_4, (⟨#[]⟩ : ByteArray), a2_6⟩ : S33)] : List (S33))))) = some (r1, r2, r3, r4, r5, r6, r7, r8, r9) := H
  have A6 := Aside0.mk A60
  clear A60
  obtain ⟨y116, hy116⟩ : ∃ y_ : List (S33), y_ = (([(⟨2, a2_1, a2_2, t114, a2_4, (⟨#[]⟩ : ByteArray), a2_6⟩ : S33)] : List (S33))) := ⟨_, rfl⟩
  replace H : (some (a1_0, a2_1, a1_2, a1_3, a1_4, a1_5, a2_3, a1_7, y116)) = some (r1, r2, r3, r4, r5, r6, r7, r8, r9) := by first | (rw [hy116]; with_reducible exact H) | (have H2_ := (Option.bind_some _ _).symm.trans H; rw [hy116]; with_reducible exact H2_) | (have H2_ := (Option.bind_some _ _).symm.trans H; with_reducible exact H2_) | with_reducible exact H | (rw [hy116]; exact H) | exact H
  have Ny116 := Aside0.mk hy116
  clear hy116
  simp only [Option.some.injEq, Prod.mk.injEq] at H
  obtain ⟨rfl, rfl, rfl, rfl, rfl, rfl, rfl, rfl, rfl⟩ := H
  go_enter Try.func12, Try.ntmps12
  try go_wp2_with (first | ((with_reducible refine gate_dst (N := 3) rfl ?_); refine box_event ?hg (N := 3) ?hd (cs := #[.bool a0_0]) (t := 23) ?hr ?_; (case hd => rfl); (case hg => rfl); (case hr => first | (go_simp; done) | (go_simp; rfl)); intro gb109 hg w7 hbox hb; have n0_ := Aside0.mk (below_step (hbw HB.out) hb); have n1_ := Aside0.mk (hbox); have n2_ := Aside0.mk ((by rw [hg]; exact (below_size (hbw HB.out)) : w.heap.size ≤ gb109)); have n3_ := Aside0.mk ((by rw [hg]; exact (below_size (hbw HB.out)) : w.heap.size ≤ gb109)); clear HB; have HB := n0_; have BK109 := n1_; have GW109 := n2_; have GE109 := n3_; clear n0_ n1_ n2_ n3_; clear hb hbox hg) | ((with_reducible refine gate_dst (N := 4) rfl ?_); refine box_event ?hg (N := 4) ?hd (cs := #[.int .i64 a1_0, .int .i64 a1_1, .int .i64 a1_2, .int .i64 a1_3, .int .i64 a1_4, .int .i64 a1_5, .int .i64 a1_6, .string a1_7]) (t := 28) ?hr ?_; (case hd => rfl); (case hg => rfl); (case hr => first | (go_simp; done) | (go_simp; rfl)); intro gb110 hg w8 hbox hb; have n0_ := Aside0.mk (blkb BK109.out hb); have n1_ := Aside0.mk (below_step (hbw HB.out) hb); have n2_ := Aside0.mk (hbox); have n3_ := Aside0.mk ((by rw [hg]; exact (below_size (hbw HB.out)) : w.heap.size ≤ gb110)); have n4_ := Aside0.mk ((by rw [hg]; exact (below_size (hbw HB.out)) : w.heap.size ≤ gb110)); have n5_ := Aside0.mk ((by rw [hg]; exact Nat.ne_of_lt (blkl BK109.out) : gb109 ≠ gb110)); have n6_ := Aside0.mk ((by rw [hg]; exact Nat.ne_of_gt (blkl BK109.out) : gb110 ≠ gb109)); clear BK109; clear HB; have BK109 := n0_; have HB := n1_; have BK110 := n2_; have GW110 := n3_; have GE110 := n4_; have NB109_110 := n5_; have NB110_109 := n6_; clear n0_ n1_ n2_ n3_ n4_ n5_ n6_; clear hb hbox hg) | ((with_reducible refine gate_dst (N := 5) rfl ?_); refine box_event ?hg (N := 5) ?hd (cs := #[.int .i64 a2_0, .int .i64 a2_1, .int .i64 a2_2, .int .i64 a2_3, .int .i64 a2_4, .string a2_5, .int .i64 a2_6]) (t := 33) ?hr ?_; (case hd => rfl); (case hg => rfl); (case hr => first | (go_simp; done) | (go_simp; rfl)); intro gb111 hg w9 hbox hb; have n0_ := Aside0.mk (blkb BK109.out hb); have n1_ := Aside0.mk (blkb BK110.out hb); have n2_ := Aside0.mk (below_step (hbw HB.out) hb); have n3_ := Aside0.mk (hbox); have n4_ := Aside0.mk ((by rw [hg]; exact (below_size (hbw HB.out)) : w.heap.size ≤ gb111)); have n5_ := Aside0.mk ((by rw [hg]; exact (below_size (hbw HB.out)) : w.heap.size ≤ gb111)); have n6_ := Aside0.mk ((by rw [hg]; exact Nat.ne_of_lt (blkl BK109.out) : gb109 ≠ gb111)); have n7_ := Aside0.mk ((by rw [hg]; exact Nat.ne_of_gt (blkl BK109.out) : gb111 ≠ gb109)); have n8_ := Aside0.mk ((by rw [hg]; exact Nat.ne_of_lt (blkl BK110.out) : gb110 ≠ gb111)); have n9_ := Aside0.mk ((by rw [hg]; exact Nat.ne_of_gt (blkl BK110.out) : gb111 ≠ gb110)); clear BK109; clear BK110; clear HB; have BK109 := n0_; have BK110 := n1_; have HB := n2_; have BK111 := n3_; have GW111 := n4_; have GE111 := n5_; have NB109_111 := n6_; have NB111_109 := n7_; have NB110_111 := n8_; have NB111_110 := n9_; clear n0_ n1_ n2_ n3_ n4_ n5_ n6_ n7_ n8_ n9_; clear hb hbox hg) | ((with_reducible refine gate_dst (N := 6) rfl ?_); refine box_event ?hg (N := 6) ?hd (cs := #[.int .i64 0, .int .i64 0, .int .i64 0, .int .i64 0, .int .i64 0, .int .i64 0, .int .i64 0, .string (⟨#[]⟩ : ByteArray)]) (t := 28) ?hr ?_; (case hd => rfl); (case hg => rfl); (case hr => first | (go_simp; done) | (go_simp; rfl)); intro gb112 hg w10 hbox hb; have n0_ := Aside0.mk (blkb BK109.out hb); have n1_ := Aside0.mk (blkb BK110.out hb); have n2_ := Aside0.mk (blkb BK111.out hb); have n3_ := Aside0.mk (below_step (hbw HB.out) hb); have n4_ := Aside0.mk (hbox); have n5_ := Aside0.mk ((by rw [hg]; exact (below_size (hbw HB.out)) : w.heap.size ≤ gb112)); have n6_ := Aside0.mk ((by rw [hg]; exact (below_size (hbw HB.out)) : w.heap.size ≤ gb112)); have n7_ := Aside0.mk ((by rw [hg]; exact Nat.ne_of_lt (blkl BK109.out) : gb109 ≠ gb112)); have n8_ := Aside0.mk ((by rw [hg]; exact Nat.ne_of_gt (blkl BK109.out) : gb112 ≠ gb109)); have n9_ := Aside0.mk ((by rw [hg]; exact Nat.ne_of_lt (blkl BK110.out) : gb110 ≠ gb112)); have n10_ := Aside0.mk ((by rw [hg]; exact Nat.ne_of_gt (blkl BK110.out) : gb112 ≠ gb110)); have n11_ := Aside0.mk ((by rw [hg]; exact Nat.ne_of_lt (blkl BK111.out) : gb111 ≠ gb112)); have n12_ := Aside0.mk ((by rw [hg]; exact Nat.ne_of_gt (blkl BK111.out) : gb112 ≠ gb111)); clear BK109; clear BK110; clear BK111; clear HB; have BK109 := n0_; have BK110 := n1_; have BK111 := n2_; have HB := n3_; have BK112 := n4_; have GW112 := n5_; have GE112 := n6_; have NB109_112 := n7_; have NB112_109 := n8_; have NB110_112 := n9_; have NB112_110 := n10_; have NB111_112 := n11_; have NB112_111 := n12_; clear n0_ n1_ n2_ n3_ n4_ n5_ n6_ n7_ n8_ n9_ n10_ n11_ n12_; clear hb hbox hg; have hnb11 := NB110_109.out; have hnc11 := NB109_110.out; have hnb12 := NB110_111.out; have hnc12 := NB111_110.out; have hnb13 := NB110_112.out; have hnc13 := NB112_110.out; have hcz14_0 : w10.cell? ⟨gb110, 0, none⟩ = some (.int .i64 a1_0) := (blk_cell BK110.out 0).trans rfl; have hcz14_1 : w10.cell? ⟨gb110, 1, none⟩ = some (.int .i64 a1_1) := (blk_cell BK110.out 1).trans rfl; have hcz14_2 : w10.cell? ⟨gb110, 2, none⟩ = some (.int .i64 a1_2) := (blk_cell BK110.out 2).trans rfl; have hcz14_3 : w10.cell? ⟨gb110, 3, none⟩ = some (.int .i64 a1_3) := (blk_cell BK110.out 3).trans rfl; have hcz14_4 : w10.cell? ⟨gb110, 4, none⟩ = some (.int .i64 a1_4) := (blk_cell BK110.out 4).trans rfl; have hcz14_5 : w10.cell? ⟨gb110, 5, none⟩ = some (.int .i64 a1_5) := (blk_cell BK110.out 5).trans rfl; have hcz14_6 : w10.cell? ⟨gb110, 6, none⟩ = some (.int .i64 a1_6) := (blk_cell BK110.out 6).trans rfl; have hcz14_7 : w10.cell? ⟨gb110, 7, none⟩ = some (.string a1_7) := (blk_cell BK110.out 7).trans rfl; have hfz14_0 := blk_frozen BK110.out 0; have hfz14_1 := blk_frozen BK110.out 1; have hfz14_2 := blk_frozen BK110.out 2; have hfz14_3 := blk_frozen BK110.out 3; have hfz14_4 := blk_frozen BK110.out 4; have hfz14_5 := blk_frozen BK110.out 5; have hfz14_6 := blk_frozen BK110.out 6; have hfz14_7 := blk_frozen BK110.out 7; have hnb15 := NB111_109.out; have hnc15 := NB109_111.out; have hnb16 := NB111_112.out; have hnc16 := NB112_111.out; have hcz17_0 : w10.cell? ⟨gb111, 0, none⟩ = some (.int .i64 a2_0) := (blk_cell BK111.out 0).trans rfl; have hcz17_1 : w10.cell? ⟨gb111, 1, none⟩ = some (.int .i64 a2_1) := (blk_cell BK111.out 1).trans rfl; have hcz17_2 : w10.cell? ⟨gb111, 2, none⟩ = some (.int .i64 a2_2) := (blk_cell BK111.out 2).trans rfl; have hcz17_3 : w10.cell? ⟨gb111, 3, none⟩ = some (.int .i64 a2_3) := (blk_cell BK111.out 3).trans rfl; have hcz17_4 : w10.cell? ⟨gb111, 4, none⟩ = some (.int .i64 a2_4) := (blk_cell BK111.out 4).trans rfl; have hcz17_5 : w10.cell? ⟨gb111, 5, none⟩ = some (.string a2_5) := (blk_cell BK111.out 5).trans rfl; have hcz17_6 : w10.cell? ⟨gb111, 6, none⟩ = some (.int .i64 a2_6) := (blk_cell BK111.out 6).trans rfl; have hfz17_0 := blk_frozen BK111.out 0; have hfz17_1 := blk_frozen BK111.out 1; have hfz17_2 := blk_frozen BK111.out 2; have hfz17_3 := blk_frozen BK111.out 3; have hfz17_4 := blk_frozen BK111.out 4; have hfz17_5 := blk_frozen BK111.out 5; have hfz17_6 := blk_frozen BK111.out 6) | ((with_reducible refine gate_callee (f := 25) rfl ?_); refine goesL_ (some 11) rfl rfl Try.func25 (by kernel_rfl) rfl #[.agg #[.int .i64 a1_0, .int .i64 a1_1, .int .i64 a1_2, .int .i64 a1_3, .int .i64 a1_4, .int .i64 a1_5, .int .i64 a1_6, .string a1_7], .agg #[.int .i64 a2_0, .int .i64 a2_1, .int .i64 a2_2, .int .i64 a2_3, .int .i64 a2_4, .string a2_5, .int .i64 a2_6]] rfl (by (try simp only [List.map_toArray, List.map_cons, List.map_nil]); first | done | rfl | (simp only [List.length_drop, List.length_take]; rfl)) ?_; (with_reducible refine (nrzi_accepts.calls k a1_0 a1_1 a1_2 a1_3 a1_4 a1_5 a1_6 a1_7 a2_0 a2_1 a2_2 a2_3 a2_4 a2_5 a2_6 true _ A4.out).mono ?_); rintro e w18 ⟨rfl, hb⟩; refine ⟨_, rfl, ?_⟩; have n0_ := Aside0.mk (blkb BK109.out hb); have n1_ := Aside0.mk (blkb BK110.out hb); have n2_ := Aside0.mk (blkb BK111.out hb); have n3_ := Aside0.mk (blkb BK112.out hb); have n4_ := Aside0.mk (below_step (hbw HB.out) hb); clear BK109; clear BK110; clear BK111; clear BK112; clear HB; have BK109 := n0_; have BK110 := n1_; have BK111 := n2_; have BK112 := n3_; have HB := n4_; clear n0_ n1_ n2_ n3_ n4_; (try clear hb); (try clear hb2); (try clear hk); (try clear hi)))
  have n0_ := Aside0.mk (blk_drew BK109.out)
  have n1_ := Aside0.mk (blk_drew BK110.out)
  have n2_ := Aside0.mk (blk_drew BK111.out)
  have n3_ := Aside0.mk (blk_drew BK112.out)
  have n4_ := Aside0.mk (below_drew1 HB.out)
  clear BK109
  clear BK110
  clear BK111
  clear BK112
  clear HB
  have BK109 := n0_
  have BK110 := n1_
  have BK111 := n2_
  have BK112 := n3_
  have HB := n4_
  clear n0_ n1_ n2_ n3_ n4_
  refine start_ (n := 18) (S := fun w' => w'.cell? ⟨gb111, 0, none⟩ = some (.int .i64 a2_0) ∧ w'.cell? ⟨gb111, 1, none⟩ = some (.int .i64 a2_1) ∧ w'.cell? ⟨gb111, 2, none⟩ = some (.int .i64 a2_2) ∧ w'.cell? ⟨gb111, 3, none⟩ = some (.int .i64 a2_3) ∧ w'.cell? ⟨gb111, 4, none⟩ = some (.int .i64 a2_4) ∧ w'.cell? ⟨gb111, 5, none⟩ = some (.string a2_5) ∧ w'.cell? ⟨gb111, 6, none⟩ = some (.int .i64 a2_6) ∧ w'.cell? ⟨gb109, 0, none⟩ = some (.bool a0_0) ∧ w'.cell? ⟨gb110, 0, none⟩ = some (.int .i64 a1_0) ∧ w'.cell? ⟨gb110, 1, none⟩ = some (.int .i64 a1_1) ∧ w'.cell? ⟨gb110, 2, none⟩ = some (.int .i64 a1_2) ∧ w'.cell? ⟨gb110, 3, none⟩ = some (.int .i64 a1_3) ∧ w'.cell? ⟨gb110, 4, none⟩ = some (.int .i64 a1_4) ∧ w'.cell? ⟨gb110, 5, none⟩ = some (.int .i64 a1_5) ∧ w'.cell? ⟨gb110, 6, none⟩ = some (.int .i64 a1_6) ∧ w'.cell? ⟨gb110, 7, none⟩ = some (.string a1_7)) (ds := []) #[false, false, false, false, false, false, false, false, false, false, false, false, false, false, false, false, false, false] (by kernel_rfl) rfl rfl ⟨(blk_cell BK111.out 0).trans rfl, (blk_cell BK111.out 1).trans rfl, (blk_cell BK111.out 2).trans rfl, (blk_cell BK111.out 3).trans rfl, (blk_cell BK111.out 4).trans rfl, (blk_cell BK111.out 5).trans rfl, (blk_cell BK111.out 6).trans rfl, (blk_cell BK109.out 0).trans rfl, (blk_cell BK110.out 0).trans rfl, (blk_cell BK110.out 1).trans rfl, (blk_cell BK110.out 2).trans rfl, (blk_cell BK110.out 3).trans rfl, (blk_cell BK110.out 4).trans rfl, (blk_cell BK110.out 5).trans rfl, (blk_cell BK110.out 6).trans rfl, (blk_cell BK110.out 7).trans rfl⟩ (fun hHeld => ?_); refine with_tabW nrzi_Step.tab3 nrzi_Step.bits3 (fun HT_ HW_ => ?_)
  generalize w18.drew = w19 at BK109 BK110 BK111 BK112 HB hHeld ⊢
  refine pstep 0 (some 14) #[true, false, false, false, false, false, false, false, false, false, false, false, false, false, false, false, false, false] HT_.out ?_
  refine pstep 2 (some 16) #[true, false, true, false, false, false, false, false, false, false, false, false, false, false, false, false, false, false] HT_.out ?_
  refine pstep 5 (some 19) #[true, false, true, false, false, true, false, false, false, false, false, false, false, false, false, false, false, false] HT_.out ?_
  refine pstep 7 (some 21) #[true, false, true, false, false, true, false, true, false, false, false, false, false, false, false, false, false, false] HT_.out ?_
  refine pstep 11 (some 25) #[true, false, true, false, false, true, false, true, false, false, false, true, false, false, false, false, false, false] HT_.out ?_
  refine pstep 13 (some 27) #[true, false, true, false, false, true, false, true, false, false, false, true, false, true, false, false, false, false] HT_.out ?_
  refine take_ (i := 1) (N := some 15) (v := ?_) (a' := ?_) #[true, true, true, false, false, true, false, true, false, false, false, true, false, true, false, false, false, false] rfl rfl (take_ofW HT_.out HW_.out (by kernel_rfl)) (fun _ _ _ h => h) (Or.inl ⟨by rfl, ?_⟩) hHeld ?_ ?_
  rotate_left
  ·rintro w' ⟨s0, s1, s2, s3, s4, s5, s6, s7, s8, s9, s10, s11, s12, s13, s14, s15⟩
   go_simp
   with_reducible rfl
  rotate_left
  ·simp only [Act.put, nrm]
   rfl
  refine take_ (i := 3) (N := some 17) (v := ?_) (a' := ?_) #[true, true, true, true, false, true, false, true, false, false, false, true, false, true, false, false, false, false] rfl rfl (take_ofW HT_.out HW_.out (by kernel_rfl)) (fun _ _ _ h => h) (Or.inl ⟨by rfl, ?_⟩) hHeld ?_ ?_
  rotate_left
  ·rintro w' ⟨s0, s1, s2, s3, s4, s5, s6, s7, s8, s9, s10, s11, s12, s13, s14, s15⟩
   go_simp
   with_reducible rfl
  rotate_left
  ·simp only [Act.put, nrm]
   rfl
  refine take_ (i := 4) (N := some 18) (v := ?_) (a' := ?_) #[true, true, true, true, true, true, false, true, false, false, false, true, false, true, false, false, false, false] rfl rfl (take_ofW HT_.out HW_.out (by kernel_rfl)) (fun _ _ _ h => h) (Or.inl ⟨by rfl, ?_⟩) hHeld ?_ ?_
  rotate_left
  ·rintro w' ⟨s0, s1, s2, s3, s4, s5, s6, s7, s8, s9, s10, s11, s12, s13, s14, s15⟩
   go_simp
   with_reducible rfl
  rotate_left
  ·simp only [Act.put, nrm]
   rfl
  refine take_ (i := 6) (N := some 20) (v := ?_) (a' := ?_) #[true, true, true, true, true, true, true, true, false, false, false, true, false, true, false, false, false, false] rfl rfl (take_ofW HT_.out HW_.out (by kernel_rfl)) (fun _ _ _ h => h) (Or.inl ⟨by rfl, ?_⟩) hHeld ?_ ?_
  rotate_left
  ·rintro w' ⟨s0, s1, s2, s3, s4, s5, s6, s7, s8, s9, s10, s11, s12, s13, s14, s15⟩
   go_simp
   with_reducible rfl
  rotate_left
  ·simp only [Act.put, nrm]
   rfl
  refine take_ (i := 8) (N := some 22) (v := ?_) (a' := ?_) #[true, true, true, true, true, true, true, true, true, false, false, true, false, true, false, false, false, false] rfl rfl (take_ofW HT_.out HW_.out (by kernel_rfl)) (fun _ _ _ h => h) (Or.inl ⟨by rfl, ?_⟩) hHeld ?_ ?_
  rotate_left
  ·rintro w' ⟨s0, s1, s2, s3, s4, s5, s6, s7, s8, s9, s10, s11, s12, s13, s14, s15⟩
   go_simp
   with_reducible rfl
  rotate_left
  ·simp only [Act.put, nrm]
   rfl
  refine pstep 9 (some 23) #[true, true, true, true, true, true, true, true, true, true, false, true, false, true, false, false, false, false] HT_.out ?_
  refine take_ (i := 12) (N := some 26) (v := ?_) (a' := ?_) #[true, true, true, true, true, true, true, true, true, true, false, true, true, true, false, false, false, false] rfl rfl (take_ofW HT_.out HW_.out (by kernel_rfl)) (fun _ _ _ h => h) (Or.inl ⟨by rfl, ?_⟩) hHeld ?_ ?_
  rotate_left
  ·rintro w' ⟨s0, s1, s2, s3, s4, s5, s6, s7, s8, s9, s10, s11, s12, s13, s14, s15⟩
   go_simp
   with_reducible rfl
  rotate_left
  ·simp only [Act.put, nrm]
   rfl
  refine take_ (i := 14) (N := some 28) (v := ?_) (a' := ?_) #[true, true, true, true, true, true, true, true, true, true, false, true, true, true, true, false, false, false] rfl rfl (take_ofW HT_.out HW_.out (by kernel_rfl)) (fun _ _ _ h => h) (Or.inl ⟨by rfl, ?_⟩) hHeld ?_ ?_
  rotate_left
  ·rintro w' ⟨s0, s1, s2, s3, s4, s5, s6, s7, s8, s9, s10, s11, s12, s13, s14, s15⟩
   go_simp
   with_reducible rfl
  rotate_left
  ·simp only [Act.put, nrm]
   rfl
  refine join_ (σ := Nat) 1 #[true, true, true, true, true, true, true, true, true, true, true, true, true, true, true, true, true, false] (fun s_ => [(24, .int .i64 t114), (8, .pointer (some ⟨s_, 0, none⟩)), (29, .agg #[.int .i64 2, .int .i64 a2_1, .int .i64 a2_2, .int .i64 t114, .int .i64 a2_4, .string (⟨#[]⟩ : ByteArray), .int .i64 a2_6])]) (fun s_ w' => (w'.cell? ⟨gb111, 0, none⟩ = some (.int .i64 a2_0) ∧ w'.cell? ⟨gb111, 1, none⟩ = some (.int .i64 a2_1) ∧ w'.cell? ⟨gb111, 2, none⟩ = some (.int .i64 a2_2) ∧ w'.cell? ⟨gb111, 3, none⟩ = some (.int .i64 a2_3) ∧ w'.cell? ⟨gb111, 4, none⟩ = some (.int .i64 a2_4) ∧ w'.cell? ⟨gb111, 5, none⟩ = some (.string a2_5) ∧ w'.cell? ⟨gb111, 6, none⟩ = some (.int .i64 a2_6) ∧ w'.cell? ⟨gb109, 0, none⟩ = some (.bool a0_0) ∧ w'.cell? ⟨gb110, 0, none⟩ = some (.int .i64 a1_0) ∧ w'.cell? ⟨gb110, 1, none⟩ = some (.int .i64 a1_1) ∧ w'.cell? ⟨gb110, 2, none⟩ = some (.int .i64 a1_2) ∧ w'.cell? ⟨gb110, 3, none⟩ = some (.int .i64 a1_3) ∧ w'.cell? ⟨gb110, 4, none⟩ = some (.int .i64 a1_4) ∧ w'.cell? ⟨gb110, 5, none⟩ = some (.int .i64 a1_5) ∧ w'.cell? ⟨gb110, 6, none⟩ = some (.int .i64 a1_6) ∧ w'.cell? ⟨gb110, 7, none⟩ = some (.string a1_7)) ∧ (w'.heap[gb109]? = some (.cells #[.bool a0_0] 23 (0, 0))) ∧ (w'.heap[gb110]? = some (.cells #[.int .i64 a1_0, .int .i64 a1_1, .int .i64 a1_2, .int .i64 a1_3, .int .i64 a1_4, .int .i64 a1_5, .int .i64 a1_6, .string a1_7] 28 (0, 0))) ∧ (w'.heap[gb111]? = some (.cells #[.int .i64 a2_0, .int .i64 a2_1, .int .i64 a2_2, .int .i64 a2_3, .int .i64 a2_4, .string a2_5, .int .i64 a2_6] 33 (0, 0))) ∧ (w'.heap[gb112]? = some (.cells #[.int .i64 0, .int .i64 0, .int .i64 0, .int .i64 0, .int .i64 0, .int .i64 0, .int .i64 0, .string (⟨#[]⟩ : ByteArray)] 28 (0, 0))) ∧ (w'.heap[s_]? = some (.cells #[.int .i64 0, .int .i64 0, .int .i64 0, .int .i64 0, .int .i64 0, .string (⟨#[]⟩ : ByteArray), .int .i64 0] 33 (0, 0))) ∧ (w.heap.size ≤ s_) ∧ (w.heap.size ≤ s_) ∧ (gb109 ≠ s_) ∧ (s_ ≠ gb109) ∧ (gb110 ≠ s_) ∧ (s_ ≠ gb110) ∧ (gb111 ≠ s_) ∧ (s_ ≠ gb111) ∧ (gb112 ≠ s_) ∧ (s_ ≠ gb112) ∧ (Below w.heap.size w w')) ?_ ?_
  rotate_left
  ·intro hCont
   refine two_ (i := 10) (j := 16) (Ni := some 24) (Nj := some 8) #[true, true, true, true, true, true, true, true, true, true, true, true, true, true, true, false, false, false] #[true, true, true, true, true, true, true, true, true, true, false, true, true, true, true, false, true, false] rfl rfl rfl rfl (two_of HT_.out (by kernel_rfl)) (by decide) (by decide) (fun K hK => ?_) (fun K hK => ?_)
   ·skip
    refine goes_ Try.func26 (by kernel_rfl) rfl #[.agg #[.bool a0_0], .bool (a2_3 != a1_6)] (by rfl) rfl rfl (by (try simp only [List.map_toArray, List.map_cons, List.map_nil]); first | done | rfl | (simp only [List.length_drop, List.length_take]; rfl)) ?_
    with_reducible refine (nrzi_meaning.calls a0_0 (a2_3 != a1_6) t114 _ A6.out).mono ?_
    rintro e w20 ⟨rfl, hb⟩
    refine ⟨_, rfl, ?_⟩
    have n0_ := Aside0.mk (blkb BK109.out hb)
    have n1_ := Aside0.mk (blkb BK110.out hb)
    have n2_ := Aside0.mk (blkb BK111.out hb)
    have n3_ := Aside0.mk (blkb BK112.out hb)
    have n4_ := Aside0.mk (below_step (hbw HB.out) hb)
    clear BK109
    clear BK110
    clear BK111
    clear BK112
    clear HB
    have BK109 := n0_
    have BK110 := n1_
    have BK111 := n2_
    have BK112 := n3_
    have HB := n4_
    clear n0_ n1_ n2_ n3_ n4_
    (try clear hb)
    (try clear hb2)
    (try clear hk)
    (try clear hi)
    refine hK.out _ _ ⟨(blk_cell BK111.out 0).trans rfl, (blk_cell BK111.out 1).trans rfl, (blk_cell BK111.out 2).trans rfl, (blk_cell BK111.out 3).trans rfl, (blk_cell BK111.out 4).trans rfl, (blk_cell BK111.out 5).trans rfl, (blk_cell BK111.out 6).trans rfl, (blk_cell BK109.out 0).trans rfl, (blk_cell BK110.out 0).trans rfl, (blk_cell BK110.out 1).trans rfl, (blk_cell BK110.out 2).trans rfl, (blk_cell BK110.out 3).trans rfl, (blk_cell BK110.out 4).trans rfl, (blk_cell BK110.out 5).trans rfl, (blk_cell BK110.out 6).trans rfl, (blk_cell BK110.out 7).trans rfl⟩ (fun hHeld => ?_)
    clear hK K
    refine norm_ (a' := ?_) ?_ ?_
    rotate_left
    ·show Act.put _ (some 24) _ = _
     simp only [Act.put, nrm]
     rfl
    refine pstep 15 (some 29) #[true, true, true, true, true, true, true, true, true, true, true, true, true, true, true, true, false, false] HT_.out ?_
    refine one_ (i := 16) (N := some 8) #[true, true, true, true, true, true, true, true, true, true, true, true, true, true, true, true, true, false] rfl rfl (one_of HT_.out (by kernel_rfl)) (by decide) (fun K hK => ?_)
    refine box_step ?hg (N := 8) ?hd (cs := #[.int .i64 0, .int .i64 0, .int .i64 0, .int .i64 0, .int .i64 0, .string (⟨#[]⟩ : ByteArray), .int .i64 0]) (t := 33) ?hr ?_; (case hd => rfl); (case hg => rfl); (case hr => first | (go_simp; done) | (go_simp; rfl))
    intro gb115 hg w21 hbox hb
    have n0_ := Aside0.mk (blkb BK109.out hb)
    have n1_ := Aside0.mk (blkb BK110.out hb)
    have n2_ := Aside0.mk (blkb BK111.out hb)
    have n3_ := Aside0.mk (blkb BK112.out hb)
    have n4_ := Aside0.mk (below_step (hbw HB.out) hb)
    have n5_ := Aside0.mk (hbox)
    have n6_ := Aside0.mk ((by rw [hg]; exact (below_size (hbw HB.out)) : w.heap.size ≤ gb115))
    have n7_ := Aside0.mk ((by rw [hg]; exact (below_size (hbw HB.out)) : w.heap.size ≤ gb115))
    have n8_ := Aside0.mk ((by rw [hg]; exact Nat.ne_of_lt (blkl BK109.out) : gb109 ≠ gb115))
    have n9_ := Aside0.mk ((by rw [hg]; exact Nat.ne_of_gt (blkl BK109.out) : gb115 ≠ gb109))
    have n10_ := Aside0.mk ((by rw [hg]; exact Nat.ne_of_lt (blkl BK110.out) : gb110 ≠ gb115))
    have n11_ := Aside0.mk ((by rw [hg]; exact Nat.ne_of_gt (blkl BK110.out) : gb115 ≠ gb110))
    have n12_ := Aside0.mk ((by rw [hg]; exact Nat.ne_of_lt (blkl BK111.out) : gb111 ≠ gb115))
    have n13_ := Aside0.mk ((by rw [hg]; exact Nat.ne_of_gt (blkl BK111.out) : gb115 ≠ gb111))
    have n14_ := Aside0.mk ((by rw [hg]; exact Nat.ne_of_lt (blkl BK112.out) : gb112 ≠ gb115))
    have n15_ := Aside0.mk ((by rw [hg]; exact Nat.ne_of_gt (blkl BK112.out) : gb115 ≠ gb112))
    clear BK109
    clear BK110
    clear BK111
    clear BK112
    clear HB
    have BK109 := n0_
    have BK110 := n1_
    have BK111 := n2_
    have BK112 := n3_
    have HB := n4_
    have BK115 := n5_
    have GW115 := n6_
    have GE115 := n7_
    have NB109_115 := n8_
    have NB115_109 := n9_
    have NB110_115 := n10_
    have NB115_110 := n11_
    have NB111_115 := n12_
    have NB115_111 := n13_
    have NB112_115 := n14_
    have NB115_112 := n15_
    clear n0_ n1_ n2_ n3_ n4_ n5_ n6_ n7_ n8_ n9_ n10_ n11_ n12_ n13_ n14_ n15_
    clear hb hbox hg
    refine hK.out _ _ ⟨(blk_cell BK111.out 0).trans rfl, (blk_cell BK111.out 1).trans rfl, (blk_cell BK111.out 2).trans rfl, (blk_cell BK111.out 3).trans rfl, (blk_cell BK111.out 4).trans rfl, (blk_cell BK111.out 5).trans rfl, (blk_cell BK111.out 6).trans rfl, (blk_cell BK109.out 0).trans rfl, (blk_cell BK110.out 0).trans rfl, (blk_cell BK110.out 1).trans rfl, (blk_cell BK110.out 2).trans rfl, (blk_cell BK110.out 3).trans rfl, (blk_cell BK110.out 4).trans rfl, (blk_cell BK110.out 5).trans rfl, (blk_cell BK110.out 6).trans rfl, (blk_cell BK110.out 7).trans rfl⟩ (fun hHeld => ?_)
    clear hK K
    refine norm_ (a' := ?_) ?_ ?_
    rotate_left
    ·show Act.put _ (some 8) _ = _
     simp only [Act.put, nrm]
     rfl
    exact norm_ (by simp only [putAll, Act.put, List.setIfInBounds_toArray, List.set_cons_zero, List.set_cons_succ]) (hCont (gb115) _ ⟨hHeld, (bkw BK109.out), (bkw BK110.out), (bkw BK111.out), (bkw BK112.out), (bkw BK115.out), GW115.out, GE115.out, NB109_115.out, NB115_109.out, NB110_115.out, NB115_110.out, NB111_115.out, NB115_111.out, NB112_115.out, NB115_112.out, (hbw HB.out)⟩)
   ·skip
    refine box_step ?hg (N := 8) ?hd (cs := #[.int .i64 0, .int .i64 0, .int .i64 0, .int .i64 0, .int .i64 0, .string (⟨#[]⟩ : ByteArray), .int .i64 0]) (t := 33) ?hr ?_; (case hd => rfl); (case hg => rfl); (case hr => first | (go_simp; done) | (go_simp; rfl))
    intro gb115 hg w20 hbox hb
    have n0_ := Aside0.mk (blkb BK109.out hb)
    have n1_ := Aside0.mk (blkb BK110.out hb)
    have n2_ := Aside0.mk (blkb BK111.out hb)
    have n3_ := Aside0.mk (blkb BK112.out hb)
    have n4_ := Aside0.mk (below_step (hbw HB.out) hb)
    have n5_ := Aside0.mk (hbox)
    have n6_ := Aside0.mk ((by rw [hg]; exact (below_size (hbw HB.out)) : w.heap.size ≤ gb115))
    have n7_ := Aside0.mk ((by rw [hg]; exact (below_size (hbw HB.out)) : w.heap.size ≤ gb115))
    have n8_ := Aside0.mk ((by rw [hg]; exact Nat.ne_of_lt (blkl BK109.out) : gb109 ≠ gb115))
    have n9_ := Aside0.mk ((by rw [hg]; exact Nat.ne_of_gt (blkl BK109.out) : gb115 ≠ gb109))
    have n10_ := Aside0.mk ((by rw [hg]; exact Nat.ne_of_lt (blkl BK110.out) : gb110 ≠ gb115))
    have n11_ := Aside0.mk ((by rw [hg]; exact Nat.ne_of_gt (blkl BK110.out) : gb115 ≠ gb110))
    have n12_ := Aside0.mk ((by rw [hg]; exact Nat.ne_of_lt (blkl BK111.out) : gb111 ≠ gb115))
    have n13_ := Aside0.mk ((by rw [hg]; exact Nat.ne_of_gt (blkl BK111.out) : gb115 ≠ gb111))
    have n14_ := Aside0.mk ((by rw [hg]; exact Nat.ne_of_lt (blkl BK112.out) : gb112 ≠ gb115))
    have n15_ := Aside0.mk ((by rw [hg]; exact Nat.ne_of_gt (blkl BK112.out) : gb115 ≠ gb112))
    clear BK109
    clear BK110
    clear BK111
    clear BK112
    clear HB
    have BK109 := n0_
    have BK110 := n1_
    have BK111 := n2_
    have BK112 := n3_
    have HB := n4_
    have BK115 := n5_
    have GW115 := n6_
    have GE115 := n7_
    have NB109_115 := n8_
    have NB115_109 := n9_
    have NB110_115 := n10_
    have NB115_110 := n11_
    have NB111_115 := n12_
    have NB115_111 := n13_
    have NB112_115 := n14_
    have NB115_112 := n15_
    clear n0_ n1_ n2_ n3_ n4_ n5_ n6_ n7_ n8_ n9_ n10_ n11_ n12_ n13_ n14_ n15_
    clear hb hbox hg
    refine hK.out _ _ ⟨(blk_cell BK111.out 0).trans rfl, (blk_cell BK111.out 1).trans rfl, (blk_cell BK111.out 2).trans rfl, (blk_cell BK111.out 3).trans rfl, (blk_cell BK111.out 4).trans rfl, (blk_cell BK111.out 5).trans rfl, (blk_cell BK111.out 6).trans rfl, (blk_cell BK109.out 0).trans rfl, (blk_cell BK110.out 0).trans rfl, (blk_cell BK110.out 1).trans rfl, (blk_cell BK110.out 2).trans rfl, (blk_cell BK110.out 3).trans rfl, (blk_cell BK110.out 4).trans rfl, (blk_cell BK110.out 5).trans rfl, (blk_cell BK110.out 6).trans rfl, (blk_cell BK110.out 7).trans rfl⟩ (fun hHeld => ?_)
    clear hK K
    refine norm_ (a' := ?_) ?_ ?_
    rotate_left
    ·show Act.put _ (some 8) _ = _
     simp only [Act.put, nrm]
     rfl
    refine one_ (i := 10) (N := some 24) #[true, true, true, true, true, true, true, true, true, true, true, true, true, true, true, false, true, false] rfl rfl (one_of HT_.out (by kernel_rfl)) (by decide) (fun K hK => ?_)
    refine goes_ Try.func26 (by kernel_rfl) rfl #[.agg #[.bool a0_0], .bool (a2_3 != a1_6)] (by rfl) rfl rfl (by (try simp only [List.map_toArray, List.map_cons, List.map_nil]); first | done | rfl | (simp only [List.length_drop, List.length_take]; rfl)) ?_
    with_reducible refine (nrzi_meaning.calls a0_0 (a2_3 != a1_6) t114 _ A6.out).mono ?_
    rintro e w21 ⟨rfl, hb⟩
    refine ⟨_, rfl, ?_⟩
    have n0_ := Aside0.mk (blkb BK109.out hb)
    have n1_ := Aside0.mk (blkb BK110.out hb)
    have n2_ := Aside0.mk (blkb BK111.out hb)
    have n3_ := Aside0.mk (blkb BK112.out hb)
    have n4_ := Aside0.mk (blkb BK115.out hb)
    have n5_ := Aside0.mk (below_step (hbw HB.out) hb)
    clear BK109
    clear BK110
    clear BK111
    clear BK112
    clear BK115
    clear HB
    have BK109 := n0_
    have BK110 := n1_
    have BK111 := n2_
    have BK112 := n3_
    have BK115 := n4_
    have HB := n5_
    clear n0_ n1_ n2_ n3_ n4_ n5_
    (try clear hb)
    (try clear hb2)
    (try clear hk)
    (try clear hi)
    refine hK.out _ _ ⟨(blk_cell BK111.out 0).trans rfl, (blk_cell BK111.out 1).trans rfl, (blk_cell BK111.out 2).trans rfl, (blk_cell BK111.out 3).trans rfl, (blk_cell BK111.out 4).trans rfl, (blk_cell BK111.out 5).trans rfl, (blk_cell BK111.out 6).trans rfl, (blk_cell BK109.out 0).trans rfl, (blk_cell BK110.out 0).trans rfl, (blk_cell BK110.out 1).trans rfl, (blk_cell BK110.out 2).trans rfl, (blk_cell BK110.out 3).trans rfl, (blk_cell BK110.out 4).trans rfl, (blk_cell BK110.out 5).trans rfl, (blk_cell BK110.out 6).trans rfl, (blk_cell BK110.out 7).trans rfl⟩ (fun hHeld => ?_)
    clear hK K
    refine norm_ (a' := ?_) ?_ ?_
    rotate_left
    ·show Act.put _ (some 24) _ = _
     simp only [Act.put, nrm]
     rfl
    refine pstep 15 (some 29) #[true, true, true, true, true, true, true, true, true, true, true, true, true, true, true, true, true, false] HT_.out ?_
    exact norm_ (by simp only [putAll, Act.put, List.setIfInBounds_toArray, List.set_cons_zero, List.set_cons_succ]) (hCont (gb115) _ ⟨hHeld, (bkw BK109.out), (bkw BK110.out), (bkw BK111.out), (bkw BK112.out), (bkw BK115.out), GW115.out, GE115.out, NB109_115.out, NB115_109.out, NB110_115.out, NB115_110.out, NB111_115.out, NB115_111.out, NB112_115.out, NB115_112.out, (hbw HB.out)⟩)
  rintro gb115 w22 ⟨hS_, h0_, h1_, h2_, h3_, h4_, h5_, h6_, h7_, h8_, h9_, h10_, h11_, h12_, h13_, h14_, h15_⟩
  have n0_ : Aside0 (w22.heap[gb109]? = some (.cells #[.bool a0_0] 23 (0, 0))) := ⟨h0_⟩
  have n1_ : Aside0 (w22.heap[gb110]? = some (.cells #[.int .i64 a1_0, .int .i64 a1_1, .int .i64 a1_2, .int .i64 a1_3, .int .i64 a1_4, .int .i64 a1_5, .int .i64 a1_6, .string a1_7] 28 (0, 0))) := ⟨h1_⟩
  have n2_ : Aside0 (w22.heap[gb111]? = some (.cells #[.int .i64 a2_0, .int .i64 a2_1, .int .i64 a2_2, .int .i64 a2_3, .int .i64 a2_4, .string a2_5, .int .i64 a2_6] 33 (0, 0))) := ⟨h2_⟩
  have n3_ : Aside0 (w22.heap[gb112]? = some (.cells #[.int .i64 0, .int .i64 0, .int .i64 0, .int .i64 0, .int .i64 0, .int .i64 0, .int .i64 0, .string (⟨#[]⟩ : ByteArray)] 28 (0, 0))) := ⟨h3_⟩
  have n4_ : Aside0 (w22.heap[gb115]? = some (.cells #[.int .i64 0, .int .i64 0, .int .i64 0, .int .i64 0, .int .i64 0, .string (⟨#[]⟩ : ByteArray), .int .i64 0] 33 (0, 0))) := ⟨h4_⟩
  have n5_ : Aside0 (w.heap.size ≤ gb115) := ⟨h5_⟩
  have n6_ : Aside0 (w.heap.size ≤ gb115) := ⟨h6_⟩
  have n7_ : Aside0 (gb109 ≠ gb115) := ⟨h7_⟩
  have n8_ : Aside0 (gb115 ≠ gb109) := ⟨h8_⟩
  have n9_ : Aside0 (gb110 ≠ gb115) := ⟨h9_⟩
  have n10_ : Aside0 (gb115 ≠ gb110) := ⟨h10_⟩
  have n11_ : Aside0 (gb111 ≠ gb115) := ⟨h11_⟩
  have n12_ : Aside0 (gb115 ≠ gb111) := ⟨h12_⟩
  have n13_ : Aside0 (gb112 ≠ gb115) := ⟨h13_⟩
  have n14_ : Aside0 (gb115 ≠ gb112) := ⟨h14_⟩
  have n15_ : Aside0 (Below w.heap.size w w22) := ⟨h15_⟩
  clear BK109
  clear BK110
  clear BK111
  clear BK112
  clear HB
  clear h0_ h1_ h2_ h3_ h4_ h5_ h6_ h7_ h8_ h9_ h10_ h11_ h12_ h13_ h14_ h15_
  have BK109 := n0_
  have BK110 := n1_
  have BK111 := n2_
  have BK112 := n3_
  have BK115 := n4_
  have GW115 := n5_
  have GE115 := n6_
  have NB109_115 := n7_
  have NB115_109 := n8_
  have NB110_115 := n9_
  have NB115_110 := n10_
  have NB111_115 := n11_
  have NB115_111 := n12_
  have NB112_115 := n13_
  have NB115_112 := n14_
  have HB := n15_
  clear n0_ n1_ n2_ n3_ n4_ n5_ n6_ n7_ n8_ n9_ n10_ n11_ n12_ n13_ n14_ n15_
  have hHeld : w22.cell? ⟨gb111, 0, none⟩ = some (.int .i64 a2_0) ∧ w22.cell? ⟨gb111, 1, none⟩ = some (.int .i64 a2_1) ∧ w22.cell? ⟨gb111, 2, none⟩ = some (.int .i64 a2_2) ∧ w22.cell? ⟨gb111, 3, none⟩ = some (.int .i64 a2_3) ∧ w22.cell? ⟨gb111, 4, none⟩ = some (.int .i64 a2_4) ∧ w22.cell? ⟨gb111, 5, none⟩ = some (.string a2_5) ∧ w22.cell? ⟨gb111, 6, none⟩ = some (.int .i64 a2_6) ∧ w22.cell? ⟨gb109, 0, none⟩ = some (.bool a0_0) ∧ w22.cell? ⟨gb110, 0, none⟩ = some (.int .i64 a1_0) ∧ w22.cell? ⟨gb110, 1, none⟩ = some (.int .i64 a1_1) ∧ w22.cell? ⟨gb110, 2, none⟩ = some (.int .i64 a1_2) ∧ w22.cell? ⟨gb110, 3, none⟩ = some (.int .i64 a1_3) ∧ w22.cell? ⟨gb110, 4, none⟩ = some (.int .i64 a1_4) ∧ w22.cell? ⟨gb110, 5, none⟩ = some (.int .i64 a1_5) ∧ w22.cell? ⟨gb110, 6, none⟩ = some (.int .i64 a1_6) ∧ w22.cell? ⟨gb110, 7, none⟩ = some (.string a1_7) := hS_
  refine norm_ (a' := ?_) ?_ ?_
  rotate_left
  ·simp only [putAll, Act.put, List.setIfInBounds_toArray, List.set_cons_zero, List.set_cons_succ]
   rfl
  refine one_ (i := 17) (N := none) #[true, true, true, true, true, true, true, true, true, true, true, true, true, true, true, true, true, true] rfl rfl (one_of HT_.out (by kernel_rfl)) (by decide) (fun K hK => ?_)
  have hs23 : w22.cell? ⟨gb115, 0, none⟩ = some (.int .i64 0) := (blk_cell BK115.out 0).trans rfl
  have hfs23 := blk_frozen BK115.out 0
  have hns23_0 := NB109_115.out
  have hns23_1 := NB110_115.out
  have hns23_2 := NB111_115.out
  have hns23_3 := NB112_115.out
  have hms23_0 := NB115_109.out
  have hms23_1 := NB115_110.out
  have hms23_2 := NB115_111.out
  have hms23_3 := NB115_112.out
  have hs24 : w22.cell? ⟨gb115, 1, none⟩ = some (.int .i64 0) := (blk_cell BK115.out 1).trans rfl
  have hfs24 := blk_frozen BK115.out 1
  have hns24_0 := NB109_115.out
  have hns24_1 := NB110_115.out
  have hns24_2 := NB111_115.out
  have hns24_3 := NB112_115.out
  have hms24_0 := NB115_109.out
  have hms24_1 := NB115_110.out
  have hms24_2 := NB115_111.out
  have hms24_3 := NB115_112.out
  have hs25 : w22.cell? ⟨gb115, 2, none⟩ = some (.int .i64 0) := (blk_cell BK115.out 2).trans rfl
  have hfs25 := blk_frozen BK115.out 2
  have hns25_0 := NB109_115.out
  have hns25_1 := NB110_115.out
  have hns25_2 := NB111_115.out
  have hns25_3 := NB112_115.out
  have hms25_0 := NB115_109.out
  have hms25_1 := NB115_110.out
  have hms25_2 := NB115_111.out
  have hms25_3 := NB115_112.out
  have hs26 : w22.cell? ⟨gb115, 3, none⟩ = some (.int .i64 0) := (blk_cell BK115.out 3).trans rfl
  have hfs26 := blk_frozen BK115.out 3
  have hns26_0 := NB109_115.out
  have hns26_1 := NB110_115.out
  have hns26_2 := NB111_115.out
  have hns26_3 := NB112_115.out
  have hms26_0 := NB115_109.out
  have hms26_1 := NB115_110.out
  have hms26_2 := NB115_111.out
  have hms26_3 := NB115_112.out
  have hs27 : w22.cell? ⟨gb115, 4, none⟩ = some (.int .i64 0) := (blk_cell BK115.out 4).trans rfl
  have hfs27 := blk_frozen BK115.out 4
  have hns27_0 := NB109_115.out
  have hns27_1 := NB110_115.out
  have hns27_2 := NB111_115.out
  have hns27_3 := NB112_115.out
  have hms27_0 := NB115_109.out
  have hms27_1 := NB115_110.out
  have hms27_2 := NB115_111.out
  have hms27_3 := NB115_112.out
  have hs28 : w22.cell? ⟨gb115, 5, none⟩ = some (.string (⟨#[]⟩ : ByteArray)) := (blk_cell BK115.out 5).trans rfl
  have hfs28 := blk_frozen BK115.out 5
  have hns28_0 := NB109_115.out
  have hns28_1 := NB110_115.out
  have hns28_2 := NB111_115.out
  have hns28_3 := NB112_115.out
  have hms28_0 := NB115_109.out
  have hms28_1 := NB115_110.out
  have hms28_2 := NB115_111.out
  have hms28_3 := NB115_112.out
  have hs29 : w22.cell? ⟨gb115, 6, none⟩ = some (.int .i64 0) := (blk_cell BK115.out 6).trans rfl
  have hfs29 := blk_frozen BK115.out 6
  have hns29_0 := NB109_115.out
  have hns29_1 := NB110_115.out
  have hns29_2 := NB111_115.out
  have hns29_3 := NB112_115.out
  have hms29_0 := NB115_109.out
  have hms29_1 := NB115_110.out
  have hms29_2 := NB115_111.out
  have hms29_3 := NB115_112.out
  refine skip_ (w1 := ?_) (by rfl) rfl ?_ ?_
  rotate_left
  ·go_simp
   rfl
  refine hK.out _ _ ⟨((far7 (g := gb115) NB111_115.out).trans (hHeld.1)), ((far7 (g := gb115) NB111_115.out).trans (hHeld.2.1)), ((far7 (g := gb115) NB111_115.out).trans (hHeld.2.2.1)), ((far7 (g := gb115) NB111_115.out).trans (hHeld.2.2.2.1)), ((far7 (g := gb115) NB111_115.out).trans (hHeld.2.2.2.2.1)), ((far7 (g := gb115) NB111_115.out).trans (hHeld.2.2.2.2.2.1)), ((far7 (g := gb115) NB111_115.out).trans (hHeld.2.2.2.2.2.2.1)), ((far7 (g := gb115) NB109_115.out).trans (hHeld.2.2.2.2.2.2.2.1)), ((far7 (g := gb115) NB110_115.out).trans (hHeld.2.2.2.2.2.2.2.2.1)), ((far7 (g := gb115) NB110_115.out).trans (hHeld.2.2.2.2.2.2.2.2.2.1)), ((far7 (g := gb115) NB110_115.out).trans (hHeld.2.2.2.2.2.2.2.2.2.2.1)), ((far7 (g := gb115) NB110_115.out).trans (hHeld.2.2.2.2.2.2.2.2.2.2.2.1)), ((far7 (g := gb115) NB110_115.out).trans (hHeld.2.2.2.2.2.2.2.2.2.2.2.2.1)), ((far7 (g := gb115) NB110_115.out).trans (hHeld.2.2.2.2.2.2.2.2.2.2.2.2.2.1)), ((far7 (g := gb115) NB110_115.out).trans (hHeld.2.2.2.2.2.2.2.2.2.2.2.2.2.2.1)), ((far7 (g := gb115) NB110_115.out).trans (hHeld.2.2.2.2.2.2.2.2.2.2.2.2.2.2.2))⟩ (fun hHeld => ?_)
  clear hK K
  refine done_ (done_of HT_.out (by kernel_rfl)) ?_
  try go_wp2
  have n0_ : Aside0 ((((((((w22.setCell ⟨gb115, 0, none⟩ (.int .i64 2)).setCell ⟨gb115, 1, none⟩ (.int .i64 a2_1)).setCell ⟨gb115, 2, none⟩ (.int .i64 a2_2)).setCell ⟨gb115, 3, none⟩ (.int .i64 t114)).setCell ⟨gb115, 4, none⟩ (.int .i64 a2_4)).setCell ⟨gb115, 5, none⟩ (.string (⟨#[]⟩ : ByteArray))).setCell ⟨gb115, 6, none⟩ (.int .i64 a2_6)).heap[gb109]? = some (.cells #[.bool a0_0] 23 (0, 0))) := ⟨by (with_reducible repeat (first | refine blk_drewN ?_ _ | refine blk_drew ?_ | refine blk_alloc ?_ _)); refine blk_far ?_ NB109_115.out _; (with_reducible repeat (first | refine blk_drewN ?_ _ | refine blk_drew ?_ | refine blk_alloc ?_ _)); refine blk_far ?_ NB109_115.out _; (with_reducible repeat (first | refine blk_drewN ?_ _ | refine blk_drew ?_ | refine blk_alloc ?_ _)); refine blk_far ?_ NB109_115.out _; (with_reducible repeat (first | refine blk_drewN ?_ _ | refine blk_drew ?_ | refine blk_alloc ?_ _)); refine blk_far ?_ NB109_115.out _; (with_reducible repeat (first | refine blk_drewN ?_ _ | refine blk_drew ?_ | refine blk_alloc ?_ _)); refine blk_far ?_ NB109_115.out _; (with_reducible repeat (first | refine blk_drewN ?_ _ | refine blk_drew ?_ | refine blk_alloc ?_ _)); refine blk_far ?_ NB109_115.out _; (with_reducible repeat (first | refine blk_drewN ?_ _ | refine blk_drew ?_ | refine blk_alloc ?_ _)); refine blk_far ?_ NB109_115.out _; (with_reducible repeat (first | refine blk_drewN ?_ _ | refine blk_drew ?_ | refine blk_alloc ?_ _)); exact BK109.out⟩
  have n1_ : Aside0 ((((((((w22.setCell ⟨gb115, 0, none⟩ (.int .i64 2)).setCell ⟨gb115, 1, none⟩ (.int .i64 a2_1)).setCell ⟨gb115, 2, none⟩ (.int .i64 a2_2)).setCell ⟨gb115, 3, none⟩ (.int .i64 t114)).setCell ⟨gb115, 4, none⟩ (.int .i64 a2_4)).setCell ⟨gb115, 5, none⟩ (.string (⟨#[]⟩ : ByteArray))).setCell ⟨gb115, 6, none⟩ (.int .i64 a2_6)).heap[gb110]? = some (.cells #[.int .i64 a1_0, .int .i64 a1_1, .int .i64 a1_2, .int .i64 a1_3, .int .i64 a1_4, .int .i64 a1_5, .int .i64 a1_6, .string a1_7] 28 (0, 0))) := ⟨by (with_reducible repeat (first | refine blk_drewN ?_ _ | refine blk_drew ?_ | refine blk_alloc ?_ _)); refine blk_far ?_ NB110_115.out _; (with_reducible repeat (first | refine blk_drewN ?_ _ | refine blk_drew ?_ | refine blk_alloc ?_ _)); refine blk_far ?_ NB110_115.out _; (with_reducible repeat (first | refine blk_drewN ?_ _ | refine blk_drew ?_ | refine blk_alloc ?_ _)); refine blk_far ?_ NB110_115.out _; (with_reducible repeat (first | refine blk_drewN ?_ _ | refine blk_drew ?_ | refine blk_alloc ?_ _)); refine blk_far ?_ NB110_115.out _; (with_reducible repeat (first | refine blk_drewN ?_ _ | refine blk_drew ?_ | refine blk_alloc ?_ _)); refine blk_far ?_ NB110_115.out _; (with_reducible repeat (first | refine blk_drewN ?_ _ | refine blk_drew ?_ | refine blk_alloc ?_ _)); refine blk_far ?_ NB110_115.out _; (with_reducible repeat (first | refine blk_drewN ?_ _ | refine blk_drew ?_ | refine blk_alloc ?_ _)); refine blk_far ?_ NB110_115.out _; (with_reducible repeat (first | refine blk_drewN ?_ _ | refine blk_drew ?_ | refine blk_alloc ?_ _)); exact BK110.out⟩
  have n2_ : Aside0 ((((((((w22.setCell ⟨gb115, 0, none⟩ (.int .i64 2)).setCell ⟨gb115, 1, none⟩ (.int .i64 a2_1)).setCell ⟨gb115, 2, none⟩ (.int .i64 a2_2)).setCell ⟨gb115, 3, none⟩ (.int .i64 t114)).setCell ⟨gb115, 4, none⟩ (.int .i64 a2_4)).setCell ⟨gb115, 5, none⟩ (.string (⟨#[]⟩ : ByteArray))).setCell ⟨gb115, 6, none⟩ (.int .i64 a2_6)).heap[gb111]? = some (.cells #[.int .i64 a2_0, .int .i64 a2_1, .int .i64 a2_2, .int .i64 a2_3, .int .i64 a2_4, .string a2_5, .int .i64 a2_6] 33 (0, 0))) := ⟨by (with_reducible repeat (first | refine blk_drewN ?_ _ | refine blk_drew ?_ | refine blk_alloc ?_ _)); refine blk_far ?_ NB111_115.out _; (with_reducible repeat (first | refine blk_drewN ?_ _ | refine blk_drew ?_ | refine blk_alloc ?_ _)); refine blk_far ?_ NB111_115.out _; (with_reducible repeat (first | refine blk_drewN ?_ _ | refine blk_drew ?_ | refine blk_alloc ?_ _)); refine blk_far ?_ NB111_115.out _; (with_reducible repeat (first | refine blk_drewN ?_ _ | refine blk_drew ?_ | refine blk_alloc ?_ _)); refine blk_far ?_ NB111_115.out _; (with_reducible repeat (first | refine blk_drewN ?_ _ | refine blk_drew ?_ | refine blk_alloc ?_ _)); refine blk_far ?_ NB111_115.out _; (with_reducible repeat (first | refine blk_drewN ?_ _ | refine blk_drew ?_ | refine blk_alloc ?_ _)); refine blk_far ?_ NB111_115.out _; (with_reducible repeat (first | refine blk_drewN ?_ _ | refine blk_drew ?_ | refine blk_alloc ?_ _)); refine blk_far ?_ NB111_115.out _; (with_reducible repeat (first | refine blk_drewN ?_ _ | refine blk_drew ?_ | refine blk_alloc ?_ _)); exact BK111.out⟩
  have n3_ : Aside0 ((((((((w22.setCell ⟨gb115, 0, none⟩ (.int .i64 2)).setCell ⟨gb115, 1, none⟩ (.int .i64 a2_1)).setCell ⟨gb115, 2, none⟩ (.int .i64 a2_2)).setCell ⟨gb115, 3, none⟩ (.int .i64 t114)).setCell ⟨gb115, 4, none⟩ (.int .i64 a2_4)).setCell ⟨gb115, 5, none⟩ (.string (⟨#[]⟩ : ByteArray))).setCell ⟨gb115, 6, none⟩ (.int .i64 a2_6)).heap[gb112]? = some (.cells #[.int .i64 0, .int .i64 0, .int .i64 0, .int .i64 0, .int .i64 0, .int .i64 0, .int .i64 0, .string (⟨#[]⟩ : ByteArray)] 28 (0, 0))) := ⟨by (with_reducible repeat (first | refine blk_drewN ?_ _ | refine blk_drew ?_ | refine blk_alloc ?_ _)); refine blk_far ?_ NB112_115.out _; (with_reducible repeat (first | refine blk_drewN ?_ _ | refine blk_drew ?_ | refine blk_alloc ?_ _)); refine blk_far ?_ NB112_115.out _; (with_reducible repeat (first | refine blk_drewN ?_ _ | refine blk_drew ?_ | refine blk_alloc ?_ _)); refine blk_far ?_ NB112_115.out _; (with_reducible repeat (first | refine blk_drewN ?_ _ | refine blk_drew ?_ | refine blk_alloc ?_ _)); refine blk_far ?_ NB112_115.out _; (with_reducible repeat (first | refine blk_drewN ?_ _ | refine blk_drew ?_ | refine blk_alloc ?_ _)); refine blk_far ?_ NB112_115.out _; (with_reducible repeat (first | refine blk_drewN ?_ _ | refine blk_drew ?_ | refine blk_alloc ?_ _)); refine blk_far ?_ NB112_115.out _; (with_reducible repeat (first | refine blk_drewN ?_ _ | refine blk_drew ?_ | refine blk_alloc ?_ _)); refine blk_far ?_ NB112_115.out _; (with_reducible repeat (first | refine blk_drewN ?_ _ | refine blk_drew ?_ | refine blk_alloc ?_ _)); exact BK112.out⟩
  have n4_ : Aside0 ((((((((w22.setCell ⟨gb115, 0, none⟩ (.int .i64 2)).setCell ⟨gb115, 1, none⟩ (.int .i64 a2_1)).setCell ⟨gb115, 2, none⟩ (.int .i64 a2_2)).setCell ⟨gb115, 3, none⟩ (.int .i64 t114)).setCell ⟨gb115, 4, none⟩ (.int .i64 a2_4)).setCell ⟨gb115, 5, none⟩ (.string (⟨#[]⟩ : ByteArray))).setCell ⟨gb115, 6, none⟩ (.int .i64 a2_6)).heap[gb115]? = some (.cells #[.int .i64 2, .int .i64 a2_1, .int .i64 a2_2, .int .i64 t114, .int .i64 a2_4, .string (⟨#[]⟩ : ByteArray), .int .i64 a2_6] 33 (0, 0))) := ⟨by (with_reducible repeat (first | refine blk_drewN ?_ _ | refine blk_drew ?_ | refine blk_alloc ?_ _)); refine blk_put (cs := #[.int .i64 2, .int .i64 a2_1, .int .i64 a2_2, .int .i64 t114, .int .i64 a2_4, .string (⟨#[]⟩ : ByteArray), .int .i64 0]) ?_ 6 _ rfl; (with_reducible repeat (first | refine blk_drewN ?_ _ | refine blk_drew ?_ | refine blk_alloc ?_ _)); refine blk_put (cs := #[.int .i64 2, .int .i64 a2_1, .int .i64 a2_2, .int .i64 t114, .int .i64 a2_4, .string (⟨#[]⟩ : ByteArray), .int .i64 0]) ?_ 5 _ rfl; (with_reducible repeat (first | refine blk_drewN ?_ _ | refine blk_drew ?_ | refine blk_alloc ?_ _)); refine blk_put (cs := #[.int .i64 2, .int .i64 a2_1, .int .i64 a2_2, .int .i64 t114, .int .i64 0, .string (⟨#[]⟩ : ByteArray), .int .i64 0]) ?_ 4 _ rfl; (with_reducible repeat (first | refine blk_drewN ?_ _ | refine blk_drew ?_ | refine blk_alloc ?_ _)); refine blk_put (cs := #[.int .i64 2, .int .i64 a2_1, .int .i64 a2_2, .int .i64 0, .int .i64 0, .string (⟨#[]⟩ : ByteArray), .int .i64 0]) ?_ 3 _ rfl; (with_reducible repeat (first | refine blk_drewN ?_ _ | refine blk_drew ?_ | refine blk_alloc ?_ _)); refine blk_put (cs := #[.int .i64 2, .int .i64 a2_1, .int .i64 0, .int .i64 0, .int .i64 0, .string (⟨#[]⟩ : ByteArray), .int .i64 0]) ?_ 2 _ rfl; (with_reducible repeat (first | refine blk_drewN ?_ _ | refine blk_drew ?_ | refine blk_alloc ?_ _)); refine blk_put (cs := #[.int .i64 2, .int .i64 0, .int .i64 0, .int .i64 0, .int .i64 0, .string (⟨#[]⟩ : ByteArray), .int .i64 0]) ?_ 1 _ rfl; (with_reducible repeat (first | refine blk_drewN ?_ _ | refine blk_drew ?_ | refine blk_alloc ?_ _)); refine blk_put (cs := #[.int .i64 0, .int .i64 0, .int .i64 0, .int .i64 0, .int .i64 0, .string (⟨#[]⟩ : ByteArray), .int .i64 0]) ?_ 0 _ rfl; (with_reducible repeat (first | refine blk_drewN ?_ _ | refine blk_drew ?_ | refine blk_alloc ?_ _)); exact BK115.out⟩
  have n5_ : Aside0 (Below w.heap.size w (((((((w22.setCell ⟨gb115, 0, none⟩ (.int .i64 2)).setCell ⟨gb115, 1, none⟩ (.int .i64 a2_1)).setCell ⟨gb115, 2, none⟩ (.int .i64 a2_2)).setCell ⟨gb115, 3, none⟩ (.int .i64 t114)).setCell ⟨gb115, 4, none⟩ (.int .i64 a2_4)).setCell ⟨gb115, 5, none⟩ (.string (⟨#[]⟩ : ByteArray))).setCell ⟨gb115, 6, none⟩ (.int .i64 a2_6))) := ⟨by repeat (first | (with_reducible first | exact HB.out | apply below_alloc | apply pw_below_drewN | apply below_drew1 | refine below_set ?_ GE109.out | refine below_set ?_ GE110.out | refine below_set ?_ GE111.out | refine below_set ?_ GE112.out | refine below_set ?_ GE115.out) | exact HB.out)⟩
  (try clear BK109)
  (try clear BK110)
  (try clear BK111)
  (try clear BK112)
  (try clear BK115)
  (try clear HB)
  generalize (((((((w22.setCell ⟨gb115, 0, none⟩ (.int .i64 2)).setCell ⟨gb115, 1, none⟩ (.int .i64 a2_1)).setCell ⟨gb115, 2, none⟩ (.int .i64 a2_2)).setCell ⟨gb115, 3, none⟩ (.int .i64 t114)).setCell ⟨gb115, 4, none⟩ (.int .i64 a2_4)).setCell ⟨gb115, 5, none⟩ (.string (⟨#[]⟩ : ByteArray))).setCell ⟨gb115, 6, none⟩ (.int .i64 a2_6)) = w30 at n0_ n1_ n2_ n3_ n4_ n5_ ⊢
  have BK109 := n0_
  have BK110 := n1_
  have BK111 := n2_
  have BK112 := n3_
  have BK115 := n4_
  have HB := n5_
  clear n0_ n1_ n2_ n3_ n4_ n5_
  have n0_ := Aside0.mk (blk_drew BK109.out)
  have n1_ := Aside0.mk (blk_drew BK110.out)
  have n2_ := Aside0.mk (blk_drew BK111.out)
  have n3_ := Aside0.mk (blk_drew BK112.out)
  have n4_ := Aside0.mk (blk_drew BK115.out)
  have n5_ := Aside0.mk (below_drew1 HB.out)
  clear BK109
  clear BK110
  clear BK111
  clear BK112
  clear BK115
  clear HB
  have BK109 := n0_
  have BK110 := n1_
  have BK111 := n2_
  have BK112 := n3_
  have BK115 := n4_
  have HB := n5_
  clear n0_ n1_ n2_ n3_ n4_ n5_
  refine start_ (n := 8) (S := fun w' => w'.cell? ⟨gb111, 0, none⟩ = some (.int .i64 a2_0) ∧ w'.cell? ⟨gb111, 1, none⟩ = some (.int .i64 a2_1) ∧ w'.cell? ⟨gb111, 2, none⟩ = some (.int .i64 a2_2) ∧ w'.cell? ⟨gb111, 3, none⟩ = some (.int .i64 a2_3) ∧ w'.cell? ⟨gb111, 4, none⟩ = some (.int .i64 a2_4) ∧ w'.cell? ⟨gb111, 5, none⟩ = some (.string a2_5) ∧ w'.cell? ⟨gb111, 6, none⟩ = some (.int .i64 a2_6)) (ds := []) #[false, false, false, false, false, false, false, false] (by kernel_rfl) rfl rfl ⟨(blk_cell BK111.out 0).trans rfl, (blk_cell BK111.out 1).trans rfl, (blk_cell BK111.out 2).trans rfl, (blk_cell BK111.out 3).trans rfl, (blk_cell BK111.out 4).trans rfl, (blk_cell BK111.out 5).trans rfl, (blk_cell BK111.out 6).trans rfl⟩ (fun hHeld => ?_); refine with_tabW nrzi_Step.tab4 nrzi_Step.bits4 (fun HT_ HW_ => ?_)
  generalize w30.drew = w31 at BK109 BK110 BK111 BK112 BK115 HB hHeld ⊢
  refine pstep 0 (some 30) #[true, false, false, false, false, false, false, false] HT_.out ?_
  refine pstep 2 (some 32) #[true, false, true, false, false, false, false, false] HT_.out ?_
  refine take_ (i := 1) (N := some 31) (v := ?_) (a' := ?_) #[true, true, true, false, false, false, false, false] rfl rfl (take_ofW HT_.out HW_.out (by kernel_rfl)) (fun _ _ _ h => h) (Or.inl ⟨by rfl, ?_⟩) hHeld ?_ ?_
  rotate_left
  ·rintro w' ⟨s0, s1, s2, s3, s4, s5, s6⟩
   go_simp
   with_reducible rfl
  rotate_left
  ·simp only [Act.put, nrm]
   rfl
  refine pstep 4 (some 34) #[true, true, true, false, true, false, false, false] HT_.out ?_
  refine take_ (i := 3) (N := some 33) (v := ?_) (a' := ?_) #[true, true, true, true, true, false, false, false] rfl rfl (take_ofW HT_.out HW_.out (by kernel_rfl)) (fun _ _ _ h => h) (Or.inl ⟨by rfl, ?_⟩) hHeld ?_ ?_
  rotate_left
  ·rintro w' ⟨s0, s1, s2, s3, s4, s5, s6⟩
   go_simp
   with_reducible rfl
  rotate_left
  ·simp only [Act.put, nrm]
   rfl
  refine one_ (i := 5) (N := none) #[true, true, true, true, true, true, false, false] rfl rfl (one_of HT_.out (by kernel_rfl)) (by decide) (fun K hK => ?_)
  have hs32 : w31.cell? ⟨gb110, 6, none⟩ = some (.int .i64 a1_6) := (blk_cell BK110.out 6).trans rfl
  have hfs32 := blk_frozen BK110.out 6
  have hns32_0 := NB109_110.out
  have hns32_2 := NB111_110.out
  have hns32_3 := NB112_110.out
  have hns32_4 := NB115_110.out
  have hms32_0 := NB110_109.out
  have hms32_2 := NB110_111.out
  have hms32_3 := NB110_112.out
  have hms32_4 := NB110_115.out
  refine skip_ (w1 := ?_) (by rfl) rfl ?_ ?_
  rotate_left
  ·go_simp
   rfl
  refine hK.out _ _ ⟨((cell_far (p := ⟨gb110, _, none⟩) NB111_110.out _).trans (hHeld.1)), ((cell_far (p := ⟨gb110, _, none⟩) NB111_110.out _).trans (hHeld.2.1)), ((cell_far (p := ⟨gb110, _, none⟩) NB111_110.out _).trans (hHeld.2.2.1)), ((cell_far (p := ⟨gb110, _, none⟩) NB111_110.out _).trans (hHeld.2.2.2.1)), ((cell_far (p := ⟨gb110, _, none⟩) NB111_110.out _).trans (hHeld.2.2.2.2.1)), ((cell_far (p := ⟨gb110, _, none⟩) NB111_110.out _).trans (hHeld.2.2.2.2.2.1)), ((cell_far (p := ⟨gb110, _, none⟩) NB111_110.out _).trans (hHeld.2.2.2.2.2.2))⟩ (fun hHeld => ?_)
  clear hK K
  refine pstep 6 (some 35) #[true, true, true, true, true, true, true, false] HT_.out ?_
  refine one_ (i := 7) (N := none) #[true, true, true, true, true, true, true, true] rfl rfl (one_of HT_.out (by kernel_rfl)) (by decide) (fun K hK => ?_)
  have hs33 : w31.cell? ⟨gb110, 1, none⟩ = some (.int .i64 a1_1) := (blk_cell BK110.out 1).trans rfl
  have hfs33 := blk_frozen BK110.out 1
  have hns33_0 := NB109_110.out
  have hns33_2 := NB111_110.out
  have hns33_3 := NB112_110.out
  have hns33_4 := NB115_110.out
  have hms33_0 := NB110_109.out
  have hms33_2 := NB110_111.out
  have hms33_3 := NB110_112.out
  have hms33_4 := NB110_115.out
  refine skip_ (w1 := ?_) (by rfl) rfl ?_ ?_
  rotate_left
  ·go_simp
   rfl
  refine hK.out _ _ ⟨((cell_far (p := ⟨gb110, _, none⟩) NB111_110.out _).trans (hHeld.1)), ((cell_far (p := ⟨gb110, _, none⟩) NB111_110.out _).trans (hHeld.2.1)), ((cell_far (p := ⟨gb110, _, none⟩) NB111_110.out _).trans (hHeld.2.2.1)), ((cell_far (p := ⟨gb110, _, none⟩) NB111_110.out _).trans (hHeld.2.2.2.1)), ((cell_far (p := ⟨gb110, _, none⟩) NB111_110.out _).trans (hHeld.2.2.2.2.1)), ((cell_far (p := ⟨gb110, _, none⟩) NB111_110.out _).trans (hHeld.2.2.2.2.2.1)), ((cell_far (p := ⟨gb110, _, none⟩) NB111_110.out _).trans (hHeld.2.2.2.2.2.2))⟩ (fun hHeld => ?_)
  clear hK K
  refine done_ (done_of HT_.out (by kernel_rfl)) ?_
  try go_wp2
  have n0_ : Aside0 (((w31.setCell ⟨gb110, 6, none⟩ (.int .i64 a2_3)).setCell ⟨gb110, 1, none⟩ (.int .i64 a2_1)).heap[gb109]? = some (.cells #[.bool a0_0] 23 (0, 0))) := ⟨by (with_reducible repeat (first | refine blk_drewN ?_ _ | refine blk_drew ?_ | refine blk_alloc ?_ _)); refine blk_far ?_ NB109_110.out _; (with_reducible repeat (first | refine blk_drewN ?_ _ | refine blk_drew ?_ | refine blk_alloc ?_ _)); refine blk_far ?_ NB109_110.out _; (with_reducible repeat (first | refine blk_drewN ?_ _ | refine blk_drew ?_ | refine blk_alloc ?_ _)); exact BK109.out⟩
  have n1_ : Aside0 (((w31.setCell ⟨gb110, 6, none⟩ (.int .i64 a2_3)).setCell ⟨gb110, 1, none⟩ (.int .i64 a2_1)).heap[gb110]? = some (.cells #[.int .i64 a1_0, .int .i64 a2_1, .int .i64 a1_2, .int .i64 a1_3, .int .i64 a1_4, .int .i64 a1_5, .int .i64 a2_3, .string a1_7] 28 (0, 0))) := ⟨by (with_reducible repeat (first | refine blk_drewN ?_ _ | refine blk_drew ?_ | refine blk_alloc ?_ _)); refine blk_put (cs := #[.int .i64 a1_0, .int .i64 a1_1, .int .i64 a1_2, .int .i64 a1_3, .int .i64 a1_4, .int .i64 a1_5, .int .i64 a2_3, .string a1_7]) ?_ 1 _ rfl; (with_reducible repeat (first | refine blk_drewN ?_ _ | refine blk_drew ?_ | refine blk_alloc ?_ _)); refine blk_put (cs := #[.int .i64 a1_0, .int .i64 a1_1, .int .i64 a1_2, .int .i64 a1_3, .int .i64 a1_4, .int .i64 a1_5, .int .i64 a1_6, .string a1_7]) ?_ 6 _ rfl; (with_reducible repeat (first | refine blk_drewN ?_ _ | refine blk_drew ?_ | refine blk_alloc ?_ _)); exact BK110.out⟩
  have n2_ : Aside0 (((w31.setCell ⟨gb110, 6, none⟩ (.int .i64 a2_3)).setCell ⟨gb110, 1, none⟩ (.int .i64 a2_1)).heap[gb111]? = some (.cells #[.int .i64 a2_0, .int .i64 a2_1, .int .i64 a2_2, .int .i64 a2_3, .int .i64 a2_4, .string a2_5, .int .i64 a2_6] 33 (0, 0))) := ⟨by (with_reducible repeat (first | refine blk_drewN ?_ _ | refine blk_drew ?_ | refine blk_alloc ?_ _)); refine blk_far ?_ NB111_110.out _; (with_reducible repeat (first | refine blk_drewN ?_ _ | refine blk_drew ?_ | refine blk_alloc ?_ _)); refine blk_far ?_ NB111_110.out _; (with_reducible repeat (first | refine blk_drewN ?_ _ | refine blk_drew ?_ | refine blk_alloc ?_ _)); exact BK111.out⟩
  have n3_ : Aside0 (((w31.setCell ⟨gb110, 6, none⟩ (.int .i64 a2_3)).setCell ⟨gb110, 1, none⟩ (.int .i64 a2_1)).heap[gb112]? = some (.cells #[.int .i64 0, .int .i64 0, .int .i64 0, .int .i64 0, .int .i64 0, .int .i64 0, .int .i64 0, .string (⟨#[]⟩ : ByteArray)] 28 (0, 0))) := ⟨by (with_reducible repeat (first | refine blk_drewN ?_ _ | refine blk_drew ?_ | refine blk_alloc ?_ _)); refine blk_far ?_ NB112_110.out _; (with_reducible repeat (first | refine blk_drewN ?_ _ | refine blk_drew ?_ | refine blk_alloc ?_ _)); refine blk_far ?_ NB112_110.out _; (with_reducible repeat (first | refine blk_drewN ?_ _ | refine blk_drew ?_ | refine blk_alloc ?_ _)); exact BK112.out⟩
  have n4_ : Aside0 (((w31.setCell ⟨gb110, 6, none⟩ (.int .i64 a2_3)).setCell ⟨gb110, 1, none⟩ (.int .i64 a2_1)).heap[gb115]? = some (.cells #[.int .i64 2, .int .i64 a2_1, .int .i64 a2_2, .int .i64 t114, .int .i64 a2_4, .string (⟨#[]⟩ : ByteArray), .int .i64 a2_6] 33 (0, 0))) := ⟨by (with_reducible repeat (first | refine blk_drewN ?_ _ | refine blk_drew ?_ | refine blk_alloc ?_ _)); refine blk_far ?_ NB115_110.out _; (with_reducible repeat (first | refine blk_drewN ?_ _ | refine blk_drew ?_ | refine blk_alloc ?_ _)); refine blk_far ?_ NB115_110.out _; (with_reducible repeat (first | refine blk_drewN ?_ _ | refine blk_drew ?_ | refine blk_alloc ?_ _)); exact BK115.out⟩
  have n5_ : Aside0 (Below w.heap.size w ((w31.setCell ⟨gb110, 6, none⟩ (.int .i64 a2_3)).setCell ⟨gb110, 1, none⟩ (.int .i64 a2_1))) := ⟨by repeat (first | (with_reducible first | exact HB.out | apply below_alloc | apply pw_below_drewN | apply below_drew1 | refine below_set ?_ GE109.out | refine below_set ?_ GE110.out | refine below_set ?_ GE111.out | refine below_set ?_ GE112.out | refine below_set ?_ GE115.out) | exact HB.out)⟩
  (try clear BK109)
  (try clear BK110)
  (try clear BK111)
  (try clear BK112)
  (try clear BK115)
  (try clear HB)
  generalize ((w31.setCell ⟨gb110, 6, none⟩ (.int .i64 a2_3)).setCell ⟨gb110, 1, none⟩ (.int .i64 a2_1)) = w34 at n0_ n1_ n2_ n3_ n4_ n5_ ⊢
  have BK109 := n0_
  have BK110 := n1_
  have BK111 := n2_
  have BK112 := n3_
  have BK115 := n4_
  have HB := n5_
  clear n0_ n1_ n2_ n3_ n4_ n5_
  have n0_ := Aside0.mk (blk_drew BK109.out)
  have n1_ := Aside0.mk (blk_drew BK110.out)
  have n2_ := Aside0.mk (blk_drew BK111.out)
  have n3_ := Aside0.mk (blk_drew BK112.out)
  have n4_ := Aside0.mk (blk_drew BK115.out)
  have n5_ := Aside0.mk (below_drew1 HB.out)
  clear BK109
  clear BK110
  clear BK111
  clear BK112
  clear BK115
  clear HB
  have BK109 := n0_
  have BK110 := n1_
  have BK111 := n2_
  have BK112 := n3_
  have BK115 := n4_
  have HB := n5_
  clear n0_ n1_ n2_ n3_ n4_ n5_
  refine start_ (n := 5) (S := fun w' => True) (ds := []) #[false, false, false, false, false] (by kernel_rfl) rfl rfl trivial (fun hHeld => ?_); refine with_tabW nrzi_Step.tab5 nrzi_Step.bits5 (fun HT_ HW_ => ?_)
  generalize w34.drew = w35 at BK109 BK110 BK111 BK112 BK115 HB hHeld ⊢
  refine inv_at [0, 1, 2, 3, 4] (fun a0_ b a w' => ∃ (v117 : Value) (m4_ : Value), a = putSel a0_ b [(0, 36, .agg #[.int .i64 a1_0, .int .i64 a2_1, .int .i64 a1_2, .int .i64 a1_3, .int .i64 a1_4, .int .i64 a1_5, .int .i64 a2_3, .string a1_7]), (1, 37, .agg #[.int .i64 2, .int .i64 a2_1, .int .i64 a2_2, .int .i64 t114, .int .i64 a2_4, .string (⟨#[]⟩ : ByteArray), .int .i64 a2_6]), (2, 38, v117), (4, 7, m4_)] ∧ (w'.heap[gb109]? = some (.cells #[.bool a0_0] 23 (0, 0))) ∧ (w'.heap[gb110]? = some (.cells #[.int .i64 a1_0, .int .i64 a2_1, .int .i64 a1_2, .int .i64 a1_3, .int .i64 a1_4, .int .i64 a1_5, .int .i64 a2_3, .string a1_7] 28 (0, 0))) ∧ (w'.heap[gb111]? = some (.cells #[.int .i64 a2_0, .int .i64 a2_1, .int .i64 a2_2, .int .i64 a2_3, .int .i64 a2_4, .string a2_5, .int .i64 a2_6] 33 (0, 0))) ∧ (b 3 = false → w'.heap[gb112]? = some (.cells #[.int .i64 0, .int .i64 0, .int .i64 0, .int .i64 0, .int .i64 0, .int .i64 0, .int .i64 0, .string (⟨#[]⟩ : ByteArray)] 28 (0, 0))) ∧ (w'.heap[gb115]? = some (.cells #[.int .i64 2, .int .i64 a2_1, .int .i64 a2_2, .int .i64 t114, .int .i64 a2_4, .string (⟨#[]⟩ : ByteArray), .int .i64 a2_6] 33 (0, 0))) ∧ (Below w.heap.size w w') ∧ (b 2 = true → Kd.R k33 33 w' w.heap.size (fun k_ => k_ ≠ gb111 ∧ k_ ≠ gb115) v117 y116) ∧ (b 3 = true → w'.heap[gb112]? = some (.cells #[.int .i64 a1_0, .int .i64 a2_1, .int .i64 a1_2, .int .i64 a1_3, .int .i64 a1_4, .int .i64 a1_5, .int .i64 a2_3, .string a1_7] 28 (0, 0))) ∧ (b 4 = true → (m4_ : Value) = v117)) HT_.out HW_.out (by kernel_rfl) (by kernel_rfl) ?_ ?_ ?_
  ·exact ⟨.bool false, .bool false, by simp only [putSel, Bool.false_eq_true, if_false], BK109.out, BK110.out, BK111.out, fun _ => BK112.out, BK115.out, HB.out, fun h_ => absurd h_ (by decide), fun h_ => absurd h_ (by decide), fun h_ => absurd h_ (by decide)⟩
  ·skip
   clear BK109 BK110 BK111 BK112 BK115 HB
   refine steps_cons ?_ ?_
   ·rintro b a w' ⟨v117, m4_, ha, Q_BK109, Q_BK110, Q_BK111, Q_BK112, Q_BK115, Q_HB, Q_HO118, Q_BK112_e3, Q_X4_⟩ hb_ hon hoff
    refine ⟨_, rfl, fun K hK => ?_⟩
    have e4 : a.tmps[4]? = some (.pointer (some ⟨gb110, 0, none⟩)) := by rw [ha]; exact (putSel_off rfl).trans rfl
    replace ha := Aside0.mk ha
    have BK109 := Aside0.mk Q_BK109
    have BK110 := Aside0.mk Q_BK110
    have BK111 := Aside0.mk Q_BK111
    have BK112 := Aside0.mk (Q_BK112 (hoff 3 (by kernel_rfl)))
    have BK115 := Aside0.mk Q_BK115
    have HB := Aside0.mk Q_HB
    have hc0_ : w'.cell? ⟨gb110, 0, none⟩ = some (.int .i64 a1_0) := (blk_cell BK110.out 0).trans rfl
    have hc1_ : w'.cell? ⟨gb110, 1, none⟩ = some (.int .i64 a2_1) := (blk_cell BK110.out 1).trans rfl
    have hc2_ : w'.cell? ⟨gb110, 2, none⟩ = some (.int .i64 a1_2) := (blk_cell BK110.out 2).trans rfl
    have hc3_ : w'.cell? ⟨gb110, 3, none⟩ = some (.int .i64 a1_3) := (blk_cell BK110.out 3).trans rfl
    have hc4_ : w'.cell? ⟨gb110, 4, none⟩ = some (.int .i64 a1_4) := (blk_cell BK110.out 4).trans rfl
    have hc5_ : w'.cell? ⟨gb110, 5, none⟩ = some (.int .i64 a1_5) := (blk_cell BK110.out 5).trans rfl
    have hc6_ : w'.cell? ⟨gb110, 6, none⟩ = some (.int .i64 a2_3) := (blk_cell BK110.out 6).trans rfl
    have hc7_ : w'.cell? ⟨gb110, 7, none⟩ = some (.string a1_7) := (blk_cell BK110.out 7).trans rfl
    refine value_ (w1 := w') (v := .agg #[.int .i64 a1_0, .int .i64 a2_1, .int .i64 a1_2, .int .i64 a1_3, .int .i64 a1_4, .int .i64 a1_5, .int .i64 a2_3, .string a1_7]) (by rfl) rfl ?_ ?_
    ·go_simp
     (try simp only [i64_w, u8_w, u32_w, w64_m8, w64_m32])
     try rfl
    refine hK.out _ _ ⟨v117, m4_, (by rw [ha.out]; exact putSel_upk 0 hb_ rfl rfl rfl), Q_BK109, Q_BK110, Q_BK111, Q_BK112, Q_BK115, Q_HB, Q_HO118, fun h0_ => absurd ((hoff 3 (by kernel_rfl)).symm.trans h0_) (by decide), fun h0_ => absurd ((hoff 4 (by kernel_rfl)).symm.trans h0_) (by decide)⟩
   refine steps_cons ?_ ?_
   ·rintro b a w' ⟨v117, m4_, ha, Q_BK109, Q_BK110, Q_BK111, Q_BK112, Q_BK115, Q_HB, Q_HO118, Q_BK112_e3, Q_X4_⟩ hb_ hon hoff
    refine ⟨_, rfl, fun K hK => ?_⟩
    have e8 : a.tmps[8]? = some (.pointer (some ⟨gb115, 0, none⟩)) := by rw [ha]; exact (putSel_off rfl).trans rfl
    replace ha := Aside0.mk ha
    have BK109 := Aside0.mk Q_BK109
    have BK110 := Aside0.mk Q_BK110
    have BK111 := Aside0.mk Q_BK111
    have BK115 := Aside0.mk Q_BK115
    have HB := Aside0.mk Q_HB
    have hc0_ : w'.cell? ⟨gb115, 0, none⟩ = some (.int .i64 2) := (blk_cell BK115.out 0).trans rfl
    have hc1_ : w'.cell? ⟨gb115, 1, none⟩ = some (.int .i64 a2_1) := (blk_cell BK115.out 1).trans rfl
    have hc2_ : w'.cell? ⟨gb115, 2, none⟩ = some (.int .i64 a2_2) := (blk_cell BK115.out 2).trans rfl
    have hc3_ : w'.cell? ⟨gb115, 3, none⟩ = some (.int .i64 t114) := (blk_cell BK115.out 3).trans rfl
    have hc4_ : w'.cell? ⟨gb115, 4, none⟩ = some (.int .i64 a2_4) := (blk_cell BK115.out 4).trans rfl
    have hc5_ : w'.cell? ⟨gb115, 5, none⟩ = some (.string (⟨#[]⟩ : ByteArray)) := (blk_cell BK115.out 5).trans rfl
    have hc6_ : w'.cell? ⟨gb115, 6, none⟩ = some (.int .i64 a2_6) := (blk_cell BK115.out 6).trans rfl
    refine value_ (w1 := w') (v := .agg #[.int .i64 2, .int .i64 a2_1, .int .i64 a2_2, .int .i64 t114, .int .i64 a2_4, .string (⟨#[]⟩ : ByteArray), .int .i64 a2_6]) (by rfl) rfl ?_ ?_
    ·go_simp
     (try simp only [i64_w, u8_w, u32_w, w64_m8, w64_m32])
     try rfl
    refine hK.out _ _ ⟨v117, m4_, (by rw [ha.out]; exact putSel_upk 1 hb_ rfl rfl rfl), Q_BK109, Q_BK110, Q_BK111, Q_BK112, Q_BK115, Q_HB, fun h0_ => absurd ((hoff 2 (by kernel_rfl)).symm.trans h0_) (by decide), Q_BK112_e3, fun h0_ => absurd ((hoff 4 (by kernel_rfl)).symm.trans h0_) (by decide)⟩
   refine steps_cons ?_ ?_
   ·rintro b a w' ⟨v117, m4_, ha, Q_BK109, Q_BK110, Q_BK111, Q_BK112, Q_BK115, Q_HB, Q_HO118, Q_BK112_e3, Q_X4_⟩ hb_ hon hoff
    refine ⟨_, rfl, fun K hK => ?_⟩
    have e37 : a.tmps[37]? = some (.agg #[.int .i64 2, .int .i64 a2_1, .int .i64 a2_2, .int .i64 t114, .int .i64 a2_4, .string (⟨#[]⟩ : ByteArray), .int .i64 a2_6]) := by rw [ha]; exact putSel_on (e := (1, 37, .agg #[.int .i64 2, .int .i64 a2_1, .int .i64 a2_2, .int .i64 t114, .int .i64 a2_4, .string (⟨#[]⟩ : ByteArray), .int .i64 a2_6])) 1 rfl rfl (hon 1 (by kernel_rfl)) rfl
    replace ha := Aside0.mk ha
    have BK109 := Aside0.mk Q_BK109
    have BK110 := Aside0.mk Q_BK110
    have BK111 := Aside0.mk Q_BK111
    have BK115 := Aside0.mk Q_BK115
    have HB := Aside0.mk Q_HB
    refine Kd.R_lit_step k33 _ 33 ?hg (N := 38) ?hd (xs := ([(⟨2, a2_1, a2_2, t114, a2_4, (⟨#[]⟩ : ByteArray), a2_6⟩ : S33)] : List (S33))) (inner := [.int .i64 2, .int .i64 a2_1, .int .i64 a2_2, .int .i64 t114, .int .i64 a2_4, .string (⟨#[]⟩ : ByteArray), .int .i64 a2_6]) (ok := fun _ => True) (okp := fun _ => True) ?hr ?hp (fun _ hk => hk) trivial (Below.refl _ _) (Nat.le_refl _) (by simp) ?_; (case hd => rfl); (case hg => rfl); (case hr => first | (go_simp; done) | (go_simp; rfl)); (case hp => exact (Reps.c7 (show Kd.M k33 _ _ _ (⟨2, a2_1, a2_2, t114, a2_4, (⟨#[]⟩ : ByteArray), a2_6⟩ : S33) [.int .i64 2, .int .i64 a2_1, .int .i64 a2_2, .int .i64 t114, .int .i64 a2_4, .string (⟨#[]⟩ : ByteArray), .int .i64 a2_6] from (k33_mkM _ _ _ (⟨2, a2_1, a2_2, t114, a2_4, (⟨#[]⟩ : ByteArray), a2_6⟩ : S33) )) (Reps.none _ _)))
    intro v117 w36 ho37 hb hg_ hnew_
    clear hg_ hnew_
    (first | rw [← Ny116.out] at ho37 | (simp only [Int.reduceToNat] at ho37; rw [← Ny116.out] at ho37))
    have n0_ := Aside0.mk (Kd.R_lower (Kd.R_newB (Kd.R_newB ho37 (g := gb111) (o := .cells #[.int .i64 a2_0, .int .i64 a2_1, .int .i64 a2_2, .int .i64 a2_3, .int .i64 a2_4, .string a2_5, .int .i64 a2_6] 33 (0, 0)) (bkw BK111.out)) (g := gb115) (o := .cells #[.int .i64 2, .int .i64 a2_1, .int .i64 a2_2, .int .i64 t114, .int .i64 a2_4, .string (⟨#[]⟩ : ByteArray), .int .i64 a2_6] 33 (0, 0)) (bkw BK115.out)) (below_size (hbw HB.out)))
    have n1_ := Aside0.mk (blkb BK109.out hb)
    have n2_ := Aside0.mk (blkb BK110.out hb)
    have n3_ := Aside0.mk (blkb BK111.out hb)
    have n5_ := Aside0.mk (blkb BK115.out hb)
    have n6_ := Aside0.mk (below_step (hbw HB.out) hb)
    have z_BK112 := fun (h0_ : b 3 = false) => (show w36.heap[gb112]? = some (.cells #[.int .i64 0, .int .i64 0, .int .i64 0, .int .i64 0, .int .i64 0, .int .i64 0, .int .i64 0, .string (⟨#[]⟩ : ByteArray)] 28 (0, 0)) from by first | exact (blk_below (g := gb112) (o := .cells #[.int .i64 0, .int .i64 0, .int .i64 0, .int .i64 0, .int .i64 0, .int .i64 0, .int .i64 0, .string (⟨#[]⟩ : ByteArray)] 28 (0, 0)) (by (with_reducible repeat (first | refine blk_drewN ?_ _ | refine blk_drew ?_ | refine blk_alloc ?_ _)); exact (Q_BK112 h0_)) hb))
    have z_BK112_e3 := fun (h0_ : b 3 = true) => (show w36.heap[gb112]? = some (.cells #[.int .i64 a1_0, .int .i64 a2_1, .int .i64 a1_2, .int .i64 a1_3, .int .i64 a1_4, .int .i64 a1_5, .int .i64 a2_3, .string a1_7] 28 (0, 0)) from by first | exact (blk_below (g := gb112) (o := .cells #[.int .i64 a1_0, .int .i64 a2_1, .int .i64 a1_2, .int .i64 a1_3, .int .i64 a1_4, .int .i64 a1_5, .int .i64 a2_3, .string a1_7] 28 (0, 0)) (by (with_reducible repeat (first | refine blk_drewN ?_ _ | refine blk_drew ?_ | refine blk_alloc ?_ _)); exact (Q_BK112_e3 h0_)) hb))
    clear BK109
    clear BK110
    clear BK111
    clear BK115
    clear HB
    have HO118 := n0_
    have BK109 := n1_
    have BK110 := n2_
    have BK111 := n3_
    have BK115 := n5_
    have HB := n6_
    clear n0_ n1_ n2_ n3_ n5_ n6_
    clear hb ho37
    refine hK.out _ _ ⟨v117, m4_, (by rw [ha.out]; exact putSel_upk 2 hb_ rfl rfl rfl), (bkw BK109.out), (bkw BK110.out), (bkw BK111.out), z_BK112, (bkw BK115.out), (hbw HB.out), fun _ => (by (with_reducible repeat (first | apply Kd.R_alloc | apply Kd.R_drewN | apply Kd.R_drew)); exact Kd.R_mono HO118.out (fun _ hk => ⟨hk.1.2, hk.2⟩)), z_BK112_e3, fun h0_ => absurd ((hoff 4 (by kernel_rfl)).symm.trans h0_) (by decide)⟩
   refine steps_cons ?_ ?_
   ·rintro b a w' ⟨v117, m4_, ha, Q_BK109, Q_BK110, Q_BK111, Q_BK112, Q_BK115, Q_HB, Q_HO118, Q_BK112_e3, Q_X4_⟩ hb_ hon hoff
    refine ⟨_, rfl, fun K hK => ?_⟩
    have e6 : a.tmps[6]? = some (.pointer (some ⟨gb112, 0, none⟩)) := by rw [ha]; exact (putSel_off rfl).trans rfl
    have e36 : a.tmps[36]? = some (.agg #[.int .i64 a1_0, .int .i64 a2_1, .int .i64 a1_2, .int .i64 a1_3, .int .i64 a1_4, .int .i64 a1_5, .int .i64 a2_3, .string a1_7]) := by rw [ha]; exact putSel_on (e := (0, 36, .agg #[.int .i64 a1_0, .int .i64 a2_1, .int .i64 a1_2, .int .i64 a1_3, .int .i64 a1_4, .int .i64 a1_5, .int .i64 a2_3, .string a1_7])) 0 rfl rfl (hon 0 (by kernel_rfl)) rfl
    replace ha := Aside0.mk ha
    have BK109 := Aside0.mk Q_BK109
    have BK110 := Aside0.mk Q_BK110
    have BK111 := Aside0.mk Q_BK111
    have BK112 := Aside0.mk (Q_BK112 hb_)
    have BK115 := Aside0.mk Q_BK115
    have HB := Aside0.mk Q_HB
    have hs36 : w'.cell? ⟨gb112, 0, none⟩ = some (.int .i64 0) := (blk_cell BK112.out 0).trans rfl
    have hfs36 := blk_frozen BK112.out 0
    have hns36_0 := NB109_112.out
    have hns36_1 := NB110_112.out
    have hns36_2 := NB111_112.out
    have hns36_4 := NB115_112.out
    have hms36_0 := NB112_109.out
    have hms36_1 := NB112_110.out
    have hms36_2 := NB112_111.out
    have hms36_4 := NB112_115.out
    have hs37 : w'.cell? ⟨gb112, 1, none⟩ = some (.int .i64 0) := (blk_cell BK112.out 1).trans rfl
    have hfs37 := blk_frozen BK112.out 1
    have hns37_0 := NB109_112.out
    have hns37_1 := NB110_112.out
    have hns37_2 := NB111_112.out
    have hns37_4 := NB115_112.out
    have hms37_0 := NB112_109.out
    have hms37_1 := NB112_110.out
    have hms37_2 := NB112_111.out
    have hms37_4 := NB112_115.out
    have hs38 : w'.cell? ⟨gb112, 2, none⟩ = some (.int .i64 0) := (blk_cell BK112.out 2).trans rfl
    have hfs38 := blk_frozen BK112.out 2
    have hns38_0 := NB109_112.out
    have hns38_1 := NB110_112.out
    have hns38_2 := NB111_112.out
    have hns38_4 := NB115_112.out
    have hms38_0 := NB112_109.out
    have hms38_1 := NB112_110.out
    have hms38_2 := NB112_111.out
    have hms38_4 := NB112_115.out
    have hs39 : w'.cell? ⟨gb112, 3, none⟩ = some (.int .i64 0) := (blk_cell BK112.out 3).trans rfl
    have hfs39 := blk_frozen BK112.out 3
    have hns39_0 := NB109_112.out
    have hns39_1 := NB110_112.out
    have hns39_2 := NB111_112.out
    have hns39_4 := NB115_112.out
    have hms39_0 := NB112_109.out
    have hms39_1 := NB112_110.out
    have hms39_2 := NB112_111.out
    have hms39_4 := NB112_115.out
    have hs40 : w'.cell? ⟨gb112, 4, none⟩ = some (.int .i64 0) := (blk_cell BK112.out 4).trans rfl
    have hfs40 := blk_frozen BK112.out 4
    have hns40_0 := NB109_112.out
    have hns40_1 := NB110_112.out
    have hns40_2 := NB111_112.out
    have hns40_4 := NB115_112.out
    have hms40_0 := NB112_109.out
    have hms40_1 := NB112_110.out
    have hms40_2 := NB112_111.out
    have hms40_4 := NB112_115.out
    have hs41 : w'.cell? ⟨gb112, 5, none⟩ = some (.int .i64 0) := (blk_cell BK112.out 5).trans rfl
    have hfs41 := blk_frozen BK112.out 5
    have hns41_0 := NB109_112.out
    have hns41_1 := NB110_112.out
    have hns41_2 := NB111_112.out
    have hns41_4 := NB115_112.out
    have hms41_0 := NB112_109.out
    have hms41_1 := NB112_110.out
    have hms41_2 := NB112_111.out
    have hms41_4 := NB112_115.out
    have hs42 : w'.cell? ⟨gb112, 6, none⟩ = some (.int .i64 0) := (blk_cell BK112.out 6).trans rfl
    have hfs42 := blk_frozen BK112.out 6
    have hns42_0 := NB109_112.out
    have hns42_1 := NB110_112.out
    have hns42_2 := NB111_112.out
    have hns42_4 := NB115_112.out
    have hms42_0 := NB112_109.out
    have hms42_1 := NB112_110.out
    have hms42_2 := NB112_111.out
    have hms42_4 := NB112_115.out
    have hs43 : w'.cell? ⟨gb112, 7, none⟩ = some (.string (⟨#[]⟩ : ByteArray)) := (blk_cell BK112.out 7).trans rfl
    have hfs43 := blk_frozen BK112.out 7
    have hns43_0 := NB109_112.out
    have hns43_1 := NB110_112.out
    have hns43_2 := NB111_112.out
    have hns43_4 := NB115_112.out
    have hms43_0 := NB112_109.out
    have hms43_1 := NB112_110.out
    have hms43_2 := NB112_111.out
    have hms43_4 := NB112_115.out
    refine skip_ (w1 := ?_) (by rfl) rfl ?_ ?_
    rotate_left
    ·go_simp
     rfl
    refine hK.out _ _ ⟨v117, m4_, (by rw [ha.out]; exact putSel_none (v := undef) rfl), (by (with_reducible repeat (first | refine blk_drewN ?_ _ | refine blk_drew ?_ | refine blk_alloc ?_ _)); refine blk_far ?_ NB109_112.out _; (with_reducible repeat (first | refine blk_drewN ?_ _ | refine blk_drew ?_ | refine blk_alloc ?_ _)); refine blk_far ?_ NB109_112.out _; (with_reducible repeat (first | refine blk_drewN ?_ _ | refine blk_drew ?_ | refine blk_alloc ?_ _)); refine blk_far ?_ NB109_112.out _; (with_reducible repeat (first | refine blk_drewN ?_ _ | refine blk_drew ?_ | refine blk_alloc ?_ _)); refine blk_far ?_ NB109_112.out _; (with_reducible repeat (first | refine blk_drewN ?_ _ | refine blk_drew ?_ | refine blk_alloc ?_ _)); refine blk_far ?_ NB109_112.out _; (with_reducible repeat (first | refine blk_drewN ?_ _ | refine blk_drew ?_ | refine blk_alloc ?_ _)); refine blk_far ?_ NB109_112.out _; (with_reducible repeat (first | refine blk_drewN ?_ _ | refine blk_drew ?_ | refine blk_alloc ?_ _)); refine blk_far ?_ NB109_112.out _; (with_reducible repeat (first | refine blk_drewN ?_ _ | refine blk_drew ?_ | refine blk_alloc ?_ _)); refine blk_far ?_ NB109_112.out _; (with_reducible repeat (first | refine blk_drewN ?_ _ | refine blk_drew ?_ | refine blk_alloc ?_ _)); exact BK109.out), (by (with_reducible repeat (first | refine blk_drewN ?_ _ | refine blk_drew ?_ | refine blk_alloc ?_ _)); refine blk_far ?_ NB110_112.out _; (with_reducible repeat (first | refine blk_drewN ?_ _ | refine blk_drew ?_ | refine blk_alloc ?_ _)); refine blk_far ?_ NB110_112.out _; (with_reducible repeat (first | refine blk_drewN ?_ _ | refine blk_drew ?_ | refine blk_alloc ?_ _)); refine blk_far ?_ NB110_112.out _; (with_reducible repeat (first | refine blk_drewN ?_ _ | refine blk_drew ?_ | refine blk_alloc ?_ _)); refine blk_far ?_ NB110_112.out _; (with_reducible repeat (first | refine blk_drewN ?_ _ | refine blk_drew ?_ | refine blk_alloc ?_ _)); refine blk_far ?_ NB110_112.out _; (with_reducible repeat (first | refine blk_drewN ?_ _ | refine blk_drew ?_ | refine blk_alloc ?_ _)); refine blk_far ?_ NB110_112.out _; (with_reducible repeat (first | refine blk_drewN ?_ _ | refine blk_drew ?_ | refine blk_alloc ?_ _)); refine blk_far ?_ NB110_112.out _; (with_reducible repeat (first | refine blk_drewN ?_ _ | refine blk_drew ?_ | refine blk_alloc ?_ _)); refine blk_far ?_ NB110_112.out _; (with_reducible repeat (first | refine blk_drewN ?_ _ | refine blk_drew ?_ | refine blk_alloc ?_ _)); exact BK110.out), (by (with_reducible repeat (first | refine blk_drewN ?_ _ | refine blk_drew ?_ | refine blk_alloc ?_ _)); refine blk_far ?_ NB111_112.out _; (with_reducible repeat (first | refine blk_drewN ?_ _ | refine blk_drew ?_ | refine blk_alloc ?_ _)); refine blk_far ?_ NB111_112.out _; (with_reducible repeat (first | refine blk_drewN ?_ _ | refine blk_drew ?_ | refine blk_alloc ?_ _)); refine blk_far ?_ NB111_112.out _; (with_reducible repeat (first | refine blk_drewN ?_ _ | refine blk_drew ?_ | refine blk_alloc ?_ _)); refine blk_far ?_ NB111_112.out _; (with_reducible repeat (first | refine blk_drewN ?_ _ | refine blk_drew ?_ | refine blk_alloc ?_ _)); refine blk_far ?_ NB111_112.out _; (with_reducible repeat (first | refine blk_drewN ?_ _ | refine blk_drew ?_ | refine blk_alloc ?_ _)); refine blk_far ?_ NB111_112.out _; (with_reducible repeat (first | refine blk_drewN ?_ _ | refine blk_drew ?_ | refine blk_alloc ?_ _)); refine blk_far ?_ NB111_112.out _; (with_reducible repeat (first | refine blk_drewN ?_ _ | refine blk_drew ?_ | refine blk_alloc ?_ _)); refine blk_far ?_ NB111_112.out _; (with_reducible repeat (first | refine blk_drewN ?_ _ | refine blk_drew ?_ | refine blk_alloc ?_ _)); exact BK111.out), fun h0_ => absurd ((up_self b 3).symm.trans h0_) (by decide), (by (with_reducible repeat (first | refine blk_drewN ?_ _ | refine blk_drew ?_ | refine blk_alloc ?_ _)); refine blk_far ?_ NB115_112.out _; (with_reducible repeat (first | refine blk_drewN ?_ _ | refine blk_drew ?_ | refine blk_alloc ?_ _)); refine blk_far ?_ NB115_112.out _; (with_reducible repeat (first | refine blk_drewN ?_ _ | refine blk_drew ?_ | refine blk_alloc ?_ _)); refine blk_far ?_ NB115_112.out _; (with_reducible repeat (first | refine blk_drewN ?_ _ | refine blk_drew ?_ | refine blk_alloc ?_ _)); refine blk_far ?_ NB115_112.out _; (with_reducible repeat (first | refine blk_drewN ?_ _ | refine blk_drew ?_ | refine blk_alloc ?_ _)); refine blk_far ?_ NB115_112.out _; (with_reducible repeat (first | refine blk_drewN ?_ _ | refine blk_drew ?_ | refine blk_alloc ?_ _)); refine blk_far ?_ NB115_112.out _; (with_reducible repeat (first | refine blk_drewN ?_ _ | refine blk_drew ?_ | refine blk_alloc ?_ _)); refine blk_far ?_ NB115_112.out _; (with_reducible repeat (first | refine blk_drewN ?_ _ | refine blk_drew ?_ | refine blk_alloc ?_ _)); refine blk_far ?_ NB115_112.out _; (with_reducible repeat (first | refine blk_drewN ?_ _ | refine blk_drew ?_ | refine blk_alloc ?_ _)); exact BK115.out), (hbw HB.out), fun h0_ => (by (with_reducible repeat (first | apply Kd.R_alloc | apply Kd.R_drewN | apply Kd.R_drew)); exact Kd.R_mono (Kd.R_far (p := ⟨gb112, 7, none⟩) (Kd.R_far (p := ⟨gb112, 6, none⟩) (Kd.R_far (p := ⟨gb112, 5, none⟩) (Kd.R_far (p := ⟨gb112, 4, none⟩) (Kd.R_far (p := ⟨gb112, 3, none⟩) (Kd.R_far (p := ⟨gb112, 2, none⟩) (Kd.R_far (p := ⟨gb112, 1, none⟩) (Kd.R_far (p := ⟨gb112, 0, none⟩) (Kd.R_types (Q_HO118 h0_) BK112.out (by decide)) (fun _ hk => hk.2) (.int .i64 a1_0)) (fun _ hk => hk.2) (.int .i64 a2_1)) (fun _ hk => hk.2) (.int .i64 a1_2)) (fun _ hk => hk.2) (.int .i64 a1_3)) (fun _ hk => hk.2) (.int .i64 a1_4)) (fun _ hk => hk.2) (.int .i64 a1_5)) (fun _ hk => hk.2) (.int .i64 a2_3)) (fun _ hk => hk.2) (.string a1_7)) (fun _ hk => ⟨hk.1.1, hk.1.2⟩)), fun _ => (by (with_reducible repeat (first | refine blk_drewN ?_ _ | refine blk_drew ?_ | refine blk_alloc ?_ _)); refine blk_put (cs := #[.int .i64 a1_0, .int .i64 a2_1, .int .i64 a1_2, .int .i64 a1_3, .int .i64 a1_4, .int .i64 a1_5, .int .i64 a2_3, .string (⟨#[]⟩ : ByteArray)]) ?_ 7 _ rfl; (with_reducible repeat (first | refine blk_drewN ?_ _ | refine blk_drew ?_ | refine blk_alloc ?_ _)); refine blk_put (cs := #[.int .i64 a1_0, .int .i64 a2_1, .int .i64 a1_2, .int .i64 a1_3, .int .i64 a1_4, .int .i64 a1_5, .int .i64 0, .string (⟨#[]⟩ : ByteArray)]) ?_ 6 _ rfl; (with_reducible repeat (first | refine blk_drewN ?_ _ | refine blk_drew ?_ | refine blk_alloc ?_ _)); refine blk_put (cs := #[.int .i64 a1_0, .int .i64 a2_1, .int .i64 a1_2, .int .i64 a1_3, .int .i64 a1_4, .int .i64 0, .int .i64 0, .string (⟨#[]⟩ : ByteArray)]) ?_ 5 _ rfl; (with_reducible repeat (first | refine blk_drewN ?_ _ | refine blk_drew ?_ | refine blk_alloc ?_ _)); refine blk_put (cs := #[.int .i64 a1_0, .int .i64 a2_1, .int .i64 a1_2, .int .i64 a1_3, .int .i64 0, .int .i64 0, .int .i64 0, .string (⟨#[]⟩ : ByteArray)]) ?_ 4 _ rfl; (with_reducible repeat (first | refine blk_drewN ?_ _ | refine blk_drew ?_ | refine blk_alloc ?_ _)); refine blk_put (cs := #[.int .i64 a1_0, .int .i64 a2_1, .int .i64 a1_2, .int .i64 0, .int .i64 0, .int .i64 0, .int .i64 0, .string (⟨#[]⟩ : ByteArray)]) ?_ 3 _ rfl; (with_reducible repeat (first | refine blk_drewN ?_ _ | refine blk_drew ?_ | refine blk_alloc ?_ _)); refine blk_put (cs := #[.int .i64 a1_0, .int .i64 a2_1, .int .i64 0, .int .i64 0, .int .i64 0, .int .i64 0, .int .i64 0, .string (⟨#[]⟩ : ByteArray)]) ?_ 2 _ rfl; (with_reducible repeat (first | refine blk_drewN ?_ _ | refine blk_drew ?_ | refine blk_alloc ?_ _)); refine blk_put (cs := #[.int .i64 a1_0, .int .i64 0, .int .i64 0, .int .i64 0, .int .i64 0, .int .i64 0, .int .i64 0, .string (⟨#[]⟩ : ByteArray)]) ?_ 1 _ rfl; (with_reducible repeat (first | refine blk_drewN ?_ _ | refine blk_drew ?_ | refine blk_alloc ?_ _)); refine blk_put (cs := #[.int .i64 0, .int .i64 0, .int .i64 0, .int .i64 0, .int .i64 0, .int .i64 0, .int .i64 0, .string (⟨#[]⟩ : ByteArray)]) ?_ 0 _ rfl; (with_reducible repeat (first | refine blk_drewN ?_ _ | refine blk_drew ?_ | refine blk_alloc ?_ _)); exact BK112.out), fun h0_ => absurd ((hoff 4 (by kernel_rfl)).symm.trans h0_) (by decide)⟩
   refine steps_cons ?_ ?_
   ·rintro b a w' ⟨v117, m4_, ha, Q_BK109, Q_BK110, Q_BK111, Q_BK112, Q_BK115, Q_HB, Q_HO118, Q_BK112_e3, Q_X4_⟩ hb_ hon hoff
    refine ⟨_, rfl, fun K hK => ?_⟩
    have e38 : a.tmps[38]? = some (v117) := by rw [ha]; exact putSel_on (e := (2, 38, v117)) 2 rfl rfl (hon 2 (by kernel_rfl)) rfl
    replace ha := Aside0.mk ha
    have BK109 := Aside0.mk Q_BK109
    have BK110 := Aside0.mk Q_BK110
    have BK111 := Aside0.mk Q_BK111
    have BK115 := Aside0.mk Q_BK115
    have HB := Aside0.mk Q_HB
    have HO118 := Aside0.mk (Q_HO118 (hon 2 (by kernel_rfl)))
    have BK112 := Aside0.mk (Q_BK112_e3 (hon 3 (by kernel_rfl)))
    refine value_ (w1 := w') (v := v117) (by rfl) rfl ?_ ?_
    ·go_simp
     (try simp only [i64_w, u8_w, u32_w, w64_m8, w64_m32])
     try rfl
    refine hK.out _ _ ⟨v117, (v117), (by rw [ha.out]; exact putSel_upk 3 hb_ rfl rfl rfl), Q_BK109, Q_BK110, Q_BK111, fun h0_ => absurd ((hon 3 (by kernel_rfl)).symm.trans h0_) (by decide), Q_BK115, Q_HB, Q_HO118, Q_BK112_e3, fun _ => rfl⟩
   exact steps_nil
  rintro b a w46 hall ⟨v117, m4_, ha, Q_BK109, Q_BK110, Q_BK111, Q_BK112, Q_BK115, Q_HB, Q_HO118, Q_BK112_e3, Q_X4_⟩
  clear BK109 BK110 BK111 BK112 BK115 HB
  have hb0_ := hall 0 (by kernel_rfl)
  have hb1_ := hall 1 (by kernel_rfl)
  have hb2_ := hall 2 (by kernel_rfl)
  have hb3_ := hall 3 (by kernel_rfl)
  have hb4_ := hall 4 (by kernel_rfl)
  subst ha
  obtain rfl := Q_X4_ hb4_
  simp only [putSel, hb0_, hb1_, hb2_, hb3_, hb4_, if_true, Act.put, List.setIfInBounds_toArray, List.set_cons_zero, List.set_cons_succ]
  have BK109 := Aside0.mk Q_BK109
  clear Q_BK109
  have BK110 := Aside0.mk Q_BK110
  clear Q_BK110
  have BK111 := Aside0.mk Q_BK111
  clear Q_BK111
  clear Q_BK112
  have BK115 := Aside0.mk Q_BK115
  clear Q_BK115
  have HB := Aside0.mk Q_HB
  clear Q_HB
  have HO118 := Aside0.mk (Q_HO118 hb2_)
  clear Q_HO118
  have BK112 := Aside0.mk (Q_BK112_e3 hb3_)
  clear Q_BK112_e3
  clear hall hb0_ hb1_ hb2_ hb3_ hb4_
  try go_wp2
  refine bodyPost_ret (results_ct rfl _ _ gb112 28 #[.int .i64 a1_0, .int .i64 a2_1, .int .i64 a1_2, .int .i64 a1_3, .int .i64 a1_4, .int .i64 a1_5, .int .i64 a2_3, .string a1_7] (0, 0) _ rfl (bkw BK112.out) Try.underlying28 rfl (by kernel_rfl)) rfl ?_
  exact ⟨_, by first | rfl | (simp [errW_none, errW_some] <;> rfl) | (simp [*, errW_none, errW_some] <;> rfl), by (with_reducible repeat (first | apply Kd.R_alloc | apply Kd.R_drewN | apply Kd.R_drew)); exact Kd.R_mono HO118.out (fun _ hk => trivial), by repeat (first | (with_reducible first | exact HB.out | apply below_alloc | apply pw_below_drewN | apply below_drew1 | refine below_set ?_ GE109.out | refine below_set ?_ GE110.out | refine below_set ?_ GE111.out | refine below_set ?_ GE112.out | refine below_set ?_ GE115.out) | exact HB.out)⟩
 ·replace c5 := Bool.eq_false_iff.mpr c5
  subst c5
  have H1 : (some (a1_0, a1_1, a1_2, a1_3, a1_4, a1_5, a1_6, a1_7, ([] : List (S33)))) = some (r1, r2, r3, r4, r5, r6, r7, r8, r9) := by rw [if_neg (show ¬ (false = true) by decide)] at H; exact H
  clear H
  have H := H1
  clear H1
  simp only [Option.some.injEq, Prod.mk.injEq] at H
  obtain ⟨rfl, rfl, rfl, rfl, rfl, rfl, rfl, rfl, rfl⟩ := H
  go_enter Try.func12, Try.ntmps12
  go_wp2_with (first | ((with_reducible refine gate_dst (N := 3) rfl ?_); refine box_event ?hg (N := 3) ?hd (cs := #[.bool a0_0]) (t := 23) ?hr ?_; (case hd => rfl); (case hg => rfl); (case hr => first | (go_simp; done) | (go_simp; rfl)); intro gb109 hg w47 hbox hb; have n0_ := Aside0.mk (below_step (hbw HB.out) hb); have n1_ := Aside0.mk (hbox); have n2_ := Aside0.mk ((by rw [hg]; exact (below_size (hbw HB.out)) : w.heap.size ≤ gb109)); have n3_ := Aside0.mk ((by rw [hg]; exact (below_size (hbw HB.out)) : w.heap.size ≤ gb109)); clear HB; have HB := n0_; have BK109 := n1_; have GW109 := n2_; have GE109 := n3_; clear n0_ n1_ n2_ n3_; clear hb hbox hg) | ((with_reducible refine gate_dst (N := 4) rfl ?_); refine box_event ?hg (N := 4) ?hd (cs := #[.int .i64 a1_0, .int .i64 a1_1, .int .i64 a1_2, .int .i64 a1_3, .int .i64 a1_4, .int .i64 a1_5, .int .i64 a1_6, .string a1_7]) (t := 28) ?hr ?_; (case hd => rfl); (case hg => rfl); (case hr => first | (go_simp; done) | (go_simp; rfl)); intro gb110 hg w48 hbox hb; have n0_ := Aside0.mk (blkb BK109.out hb); have n1_ := Aside0.mk (below_step (hbw HB.out) hb); have n2_ := Aside0.mk (hbox); have n3_ := Aside0.mk ((by rw [hg]; exact (below_size (hbw HB.out)) : w.heap.size ≤ gb110)); have n4_ := Aside0.mk ((by rw [hg]; exact (below_size (hbw HB.out)) : w.heap.size ≤ gb110)); have n5_ := Aside0.mk ((by rw [hg]; exact Nat.ne_of_lt (blkl BK109.out) : gb109 ≠ gb110)); have n6_ := Aside0.mk ((by rw [hg]; exact Nat.ne_of_gt (blkl BK109.out) : gb110 ≠ gb109)); clear BK109; clear HB; have BK109 := n0_; have HB := n1_; have BK110 := n2_; have GW110 := n3_; have GE110 := n4_; have NB109_110 := n5_; have NB110_109 := n6_; clear n0_ n1_ n2_ n3_ n4_ n5_ n6_; clear hb hbox hg) | ((with_reducible refine gate_dst (N := 5) rfl ?_); refine box_event ?hg (N := 5) ?hd (cs := #[.int .i64 a2_0, .int .i64 a2_1, .int .i64 a2_2, .int .i64 a2_3, .int .i64 a2_4, .string a2_5, .int .i64 a2_6]) (t := 33) ?hr ?_; (case hd => rfl); (case hg => rfl); (case hr => first | (go_simp; done) | (go_simp; rfl)); intro gb111 hg w49 hbox hb; have n0_ := Aside0.mk (blkb BK109.out hb); have n1_ := Aside0.mk (blkb BK110.out hb); have n2_ := Aside0.mk (below_step (hbw HB.out) hb); have n3_ := Aside0.mk (hbox); have n4_ := Aside0.mk ((by rw [hg]; exact (below_size (hbw HB.out)) : w.heap.size ≤ gb111)); have n5_ := Aside0.mk ((by rw [hg]; exact (below_size (hbw HB.out)) : w.heap.size ≤ gb111)); have n6_ := Aside0.mk ((by rw [hg]; exact Nat.ne_of_lt (blkl BK109.out) : gb109 ≠ gb111)); have n7_ := Aside0.mk ((by rw [hg]; exact Nat.ne_of_gt (blkl BK109.out) : gb111 ≠ gb109)); have n8_ := Aside0.mk ((by rw [hg]; exact Nat.ne_of_lt (blkl BK110.out) : gb110 ≠ gb111)); have n9_ := Aside0.mk ((by rw [hg]; exact Nat.ne_of_gt (blkl BK110.out) : gb111 ≠ gb110)); clear BK109; clear BK110; clear HB; have BK109 := n0_; have BK110 := n1_; have HB := n2_; have BK111 := n3_; have GW111 := n4_; have GE111 := n5_; have NB109_111 := n6_; have NB111_109 := n7_; have NB110_111 := n8_; have NB111_110 := n9_; clear n0_ n1_ n2_ n3_ n4_ n5_ n6_ n7_ n8_ n9_; clear hb hbox hg) | ((with_reducible refine gate_dst (N := 6) rfl ?_); refine box_event ?hg (N := 6) ?hd (cs := #[.int .i64 0, .int .i64 0, .int .i64 0, .int .i64 0, .int .i64 0, .int .i64 0, .int .i64 0, .string (⟨#[]⟩ : ByteArray)]) (t := 28) ?hr ?_; (case hd => rfl); (case hg => rfl); (case hr => first | (go_simp; done) | (go_simp; rfl)); intro gb112 hg w50 hbox hb; have n0_ := Aside0.mk (blkb BK109.out hb); have n1_ := Aside0.mk (blkb BK110.out hb); have n2_ := Aside0.mk (blkb BK111.out hb); have n3_ := Aside0.mk (below_step (hbw HB.out) hb); have n4_ := Aside0.mk (hbox); have n5_ := Aside0.mk ((by rw [hg]; exact (below_size (hbw HB.out)) : w.heap.size ≤ gb112)); have n6_ := Aside0.mk ((by rw [hg]; exact (below_size (hbw HB.out)) : w.heap.size ≤ gb112)); have n7_ := Aside0.mk ((by rw [hg]; exact Nat.ne_of_lt (blkl BK109.out) : gb109 ≠ gb112)); have n8_ := Aside0.mk ((by rw [hg]; exact Nat.ne_of_gt (blkl BK109.out) : gb112 ≠ gb109)); have n9_ := Aside0.mk ((by rw [hg]; exact Nat.ne_of_lt (blkl BK110.out) : gb110 ≠ gb112)); have n10_ := Aside0.mk ((by rw [hg]; exact Nat.ne_of_gt (blkl BK110.out) : gb112 ≠ gb110)); have n11_ := Aside0.mk ((by rw [hg]; exact Nat.ne_of_lt (blkl BK111.out) : gb111 ≠ gb112)); have n12_ := Aside0.mk ((by rw [hg]; exact Nat.ne_of_gt (blkl BK111.out) : gb112 ≠ gb111)); clear BK109; clear BK110; clear BK111; clear HB; have BK109 := n0_; have BK110 := n1_; have BK111 := n2_; have HB := n3_; have BK112 := n4_; have GW112 := n5_; have GE112 := n6_; have NB109_112 := n7_; have NB112_109 := n8_; have NB110_112 := n9_; have NB112_110 := n10_; have NB111_112 := n11_; have NB112_111 := n12_; clear n0_ n1_ n2_ n3_ n4_ n5_ n6_ n7_ n8_ n9_ n10_ n11_ n12_; clear hb hbox hg; have hnb51 := NB110_109.out; have hnc51 := NB109_110.out; have hnb52 := NB110_111.out; have hnc52 := NB111_110.out; have hnb53 := NB110_112.out; have hnc53 := NB112_110.out; have hcz54_0 : w50.cell? ⟨gb110, 0, none⟩ = some (.int .i64 a1_0) := (blk_cell BK110.out 0).trans rfl; have hcz54_1 : w50.cell? ⟨gb110, 1, none⟩ = some (.int .i64 a1_1) := (blk_cell BK110.out 1).trans rfl; have hcz54_2 : w50.cell? ⟨gb110, 2, none⟩ = some (.int .i64 a1_2) := (blk_cell BK110.out 2).trans rfl; have hcz54_3 : w50.cell? ⟨gb110, 3, none⟩ = some (.int .i64 a1_3) := (blk_cell BK110.out 3).trans rfl; have hcz54_4 : w50.cell? ⟨gb110, 4, none⟩ = some (.int .i64 a1_4) := (blk_cell BK110.out 4).trans rfl; have hcz54_5 : w50.cell? ⟨gb110, 5, none⟩ = some (.int .i64 a1_5) := (blk_cell BK110.out 5).trans rfl; have hcz54_6 : w50.cell? ⟨gb110, 6, none⟩ = some (.int .i64 a1_6) := (blk_cell BK110.out 6).trans rfl; have hcz54_7 : w50.cell? ⟨gb110, 7, none⟩ = some (.string a1_7) := (blk_cell BK110.out 7).trans rfl; have hfz54_0 := blk_frozen BK110.out 0; have hfz54_1 := blk_frozen BK110.out 1; have hfz54_2 := blk_frozen BK110.out 2; have hfz54_3 := blk_frozen BK110.out 3; have hfz54_4 := blk_frozen BK110.out 4; have hfz54_5 := blk_frozen BK110.out 5; have hfz54_6 := blk_frozen BK110.out 6; have hfz54_7 := blk_frozen BK110.out 7; have hnb55 := NB111_109.out; have hnc55 := NB109_111.out; have hnb56 := NB111_112.out; have hnc56 := NB112_111.out; have hcz57_0 : w50.cell? ⟨gb111, 0, none⟩ = some (.int .i64 a2_0) := (blk_cell BK111.out 0).trans rfl; have hcz57_1 : w50.cell? ⟨gb111, 1, none⟩ = some (.int .i64 a2_1) := (blk_cell BK111.out 1).trans rfl; have hcz57_2 : w50.cell? ⟨gb111, 2, none⟩ = some (.int .i64 a2_2) := (blk_cell BK111.out 2).trans rfl; have hcz57_3 : w50.cell? ⟨gb111, 3, none⟩ = some (.int .i64 a2_3) := (blk_cell BK111.out 3).trans rfl; have hcz57_4 : w50.cell? ⟨gb111, 4, none⟩ = some (.int .i64 a2_4) := (blk_cell BK111.out 4).trans rfl; have hcz57_5 : w50.cell? ⟨gb111, 5, none⟩ = some (.string a2_5) := (blk_cell BK111.out 5).trans rfl; have hcz57_6 : w50.cell? ⟨gb111, 6, none⟩ = some (.int .i64 a2_6) := (blk_cell BK111.out 6).trans rfl; have hfz57_0 := blk_frozen BK111.out 0; have hfz57_1 := blk_frozen BK111.out 1; have hfz57_2 := blk_frozen BK111.out 2; have hfz57_3 := blk_frozen BK111.out 3; have hfz57_4 := blk_frozen BK111.out 4; have hfz57_5 := blk_frozen BK111.out 5; have hfz57_6 := blk_frozen BK111.out 6) | ((with_reducible refine gate_callee (f := 25) rfl ?_); refine goesL_ (some 11) rfl rfl Try.func25 (by kernel_rfl) rfl #[.agg #[.int .i64 a1_0, .int .i64 a1_1, .int .i64 a1_2, .int .i64 a1_3, .int .i64 a1_4, .int .i64 a1_5, .int .i64 a1_6, .string a1_7], .agg #[.int .i64 a2_0, .int .i64 a2_1, .int .i64 a2_2, .int .i64 a2_3, .int .i64 a2_4, .string a2_5, .int .i64 a2_6]] rfl (by (try simp only [List.map_toArray, List.map_cons, List.map_nil]); first | done | rfl | (simp only [List.length_drop, List.length_take]; rfl)) ?_; (with_reducible refine (nrzi_accepts.calls k a1_0 a1_1 a1_2 a1_3 a1_4 a1_5 a1_6 a1_7 a2_0 a2_1 a2_2 a2_3 a2_4 a2_5 a2_6 false _ A4.out).mono ?_); rintro e w58 ⟨rfl, hb⟩; refine ⟨_, rfl, ?_⟩; have n0_ := Aside0.mk (blkb BK109.out hb); have n1_ := Aside0.mk (blkb BK110.out hb); have n2_ := Aside0.mk (blkb BK111.out hb); have n3_ := Aside0.mk (blkb BK112.out hb); have n4_ := Aside0.mk (below_step (hbw HB.out) hb); clear BK109; clear BK110; clear BK111; clear BK112; clear HB; have BK109 := n0_; have BK110 := n1_; have BK111 := n2_; have BK112 := n3_; have HB := n4_; clear n0_ n1_ n2_ n3_ n4_; (try clear hb); (try clear hb2); (try clear hk); (try clear hi); have hcz59_0 : w58.cell? ⟨gb110, 0, none⟩ = some (.int .i64 a1_0) := (blk_cell BK110.out 0).trans rfl; have hcz59_1 : w58.cell? ⟨gb110, 1, none⟩ = some (.int .i64 a1_1) := (blk_cell BK110.out 1).trans rfl; have hcz59_2 : w58.cell? ⟨gb110, 2, none⟩ = some (.int .i64 a1_2) := (blk_cell BK110.out 2).trans rfl; have hcz59_3 : w58.cell? ⟨gb110, 3, none⟩ = some (.int .i64 a1_3) := (blk_cell BK110.out 3).trans rfl; have hcz59_4 : w58.cell? ⟨gb110, 4, none⟩ = some (.int .i64 a1_4) := (blk_cell BK110.out 4).trans rfl; have hcz59_5 : w58.cell? ⟨gb110, 5, none⟩ = some (.int .i64 a1_5) := (blk_cell BK110.out 5).trans rfl; have hcz59_6 : w58.cell? ⟨gb110, 6, none⟩ = some (.int .i64 a1_6) := (blk_cell BK110.out 6).trans rfl; have hcz59_7 : w58.cell? ⟨gb110, 7, none⟩ = some (.string a1_7) := (blk_cell BK110.out 7).trans rfl; have hfz59_0 := blk_frozen BK110.out 0; have hfz59_1 := blk_frozen BK110.out 1; have hfz59_2 := blk_frozen BK110.out 2; have hfz59_3 := blk_frozen BK110.out 3; have hfz59_4 := blk_frozen BK110.out 4; have hfz59_5 := blk_frozen BK110.out 5; have hfz59_6 := blk_frozen BK110.out 6; have hfz59_7 := blk_frozen BK110.out 7; have hnb60 := NB112_109.out; have hnc60 := NB109_112.out; have hcz61_0 : w58.cell? ⟨gb112, 0, none⟩ = some (.int .i64 0) := (blk_cell BK112.out 0).trans rfl; have hcz61_1 : w58.cell? ⟨gb112, 1, none⟩ = some (.int .i64 0) := (blk_cell BK112.out 1).trans rfl; have hcz61_2 : w58.cell? ⟨gb112, 2, none⟩ = some (.int .i64 0) := (blk_cell BK112.out 2).trans rfl; have hcz61_3 : w58.cell? ⟨gb112, 3, none⟩ = some (.int .i64 0) := (blk_cell BK112.out 3).trans rfl; have hcz61_4 : w58.cell? ⟨gb112, 4, none⟩ = some (.int .i64 0) := (blk_cell BK112.out 4).trans rfl; have hcz61_5 : w58.cell? ⟨gb112, 5, none⟩ = some (.int .i64 0) := (blk_cell BK112.out 5).trans rfl; have hcz61_6 : w58.cell? ⟨gb112, 6, none⟩ = some (.int .i64 0) := (blk_cell BK112.out 6).trans rfl; have hcz61_7 : w58.cell? ⟨gb112, 7, none⟩ = some (.string (⟨#[]⟩ : ByteArray)) := (blk_cell BK112.out 7).trans rfl; have hfz61_0 := blk_frozen BK112.out 0; have hfz61_1 := blk_frozen BK112.out 1; have hfz61_2 := blk_frozen BK112.out 2; have hfz61_3 := blk_frozen BK112.out 3; have hfz61_4 := blk_frozen BK112.out 4; have hfz61_5 := blk_frozen BK112.out 5; have hfz61_6 := blk_frozen BK112.out 6; have hfz61_7 := blk_frozen BK112.out 7))
  refine bodyPost_ret (results_ct rfl _ _ gb112 28 #[.int .i64 a1_0, .int .i64 a1_1, .int .i64 a1_2, .int .i64 a1_3, .int .i64 a1_4, .int .i64 a1_5, .int .i64 a1_6, .string a1_7] (0, 0) _ rfl (by (with_reducible repeat (first | refine blk_drewN ?_ _ | refine blk_drew ?_ | refine blk_alloc ?_ _)); refine blk_put (cs := #[.int .i64 a1_0, .int .i64 a1_1, .int .i64 a1_2, .int .i64 a1_3, .int .i64 a1_4, .int .i64 a1_5, .int .i64 a1_6, .string (⟨#[]⟩ : ByteArray)]) ?_ 7 _ rfl; (with_reducible repeat (first | refine blk_drewN ?_ _ | refine blk_drew ?_ | refine blk_alloc ?_ _)); refine blk_put (cs := #[.int .i64 a1_0, .int .i64 a1_1, .int .i64 a1_2, .int .i64 a1_3, .int .i64 a1_4, .int .i64 a1_5, .int .i64 0, .string (⟨#[]⟩ : ByteArray)]) ?_ 6 _ rfl; (with_reducible repeat (first | refine blk_drewN ?_ _ | refine blk_drew ?_ | refine blk_alloc ?_ _)); refine blk_put (cs := #[.int .i64 a1_0, .int .i64 a1_1, .int .i64 a1_2, .int .i64 a1_3, .int .i64 a1_4, .int .i64 0, .int .i64 0, .string (⟨#[]⟩ : ByteArray)]) ?_ 5 _ rfl; (with_reducible repeat (first | refine blk_drewN ?_ _ | refine blk_drew ?_ | refine blk_alloc ?_ _)); refine blk_put (cs := #[.int .i64 a1_0, .int .i64 a1_1, .int .i64 a1_2, .int .i64 a1_3, .int .i64 0, .int .i64 0, .int .i64 0, .string (⟨#[]⟩ : ByteArray)]) ?_ 4 _ rfl; (with_reducible repeat (first | refine blk_drewN ?_ _ | refine blk_drew ?_ | refine blk_alloc ?_ _)); refine blk_put (cs := #[.int .i64 a1_0, .int .i64 a1_1, .int .i64 a1_2, .int .i64 0, .int .i64 0, .int .i64 0, .int .i64 0, .string (⟨#[]⟩ : ByteArray)]) ?_ 3 _ rfl; (with_reducible repeat (first | refine blk_drewN ?_ _ | refine blk_drew ?_ | refine blk_alloc ?_ _)); refine blk_put (cs := #[.int .i64 a1_0, .int .i64 a1_1, .int .i64 0, .int .i64 0, .int .i64 0, .int .i64 0, .int .i64 0, .string (⟨#[]⟩ : ByteArray)]) ?_ 2 _ rfl; (with_reducible repeat (first | refine blk_drewN ?_ _ | refine blk_drew ?_ | refine blk_alloc ?_ _)); refine blk_put (cs := #[.int .i64 a1_0, .int .i64 0, .int .i64 0, .int .i64 0, .int .i64 0, .int .i64 0, .int .i64 0, .string (⟨#[]⟩ : ByteArray)]) ?_ 1 _ rfl; (with_reducible repeat (first | refine blk_drewN ?_ _ | refine blk_drew ?_ | refine blk_alloc ?_ _)); refine blk_put (cs := #[.int .i64 0, .int .i64 0, .int .i64 0, .int .i64 0, .int .i64 0, .int .i64 0, .int .i64 0, .string (⟨#[]⟩ : ByteArray)]) ?_ 0 _ rfl; (with_reducible repeat (first | refine blk_drewN ?_ _ | refine blk_drew ?_ | refine blk_alloc ?_ _)); exact BK112.out) Try.underlying28 rfl (by kernel_rfl)) rfl ?_
  exact ⟨_, by first | rfl | (simp [errW_none, errW_some] <;> rfl) | (simp [*, errW_none, errW_some] <;> rfl), by first | exact Kd.R_nil _ _ _ _ _ | exact Kd.N_nil _ _ _ _ _ | exact Kd.V_nil _ _ _ _ _ | exact Kd.Q_nil _ _ _ _ _ | exact Kd.S_nil _ _ _ _ _, by repeat (first | (with_reducible first | exact HB.out | apply below_alloc | apply pw_below_drewN | apply below_drew1 | refine below_set ?_ GE109.out | refine below_set ?_ GE110.out | refine below_set ?_ GE111.out | refine below_set ?_ GE112.out) | exact HB.out)⟩

/-! ### nrzi_End: function 15 -/
def nrzi_End.f (a0_0 : Bool) (a1_0 : Int) (a1_1 : Int) (a1_2 : Int) (a1_3 : Int) (a1_4 : Int) (a1_5 : Int) (a1_6 : Int) (a1_7 : ByteArray) : Option ((List (S33))) := some ([] : List (S33))
set_option maxHeartbeats 8000000 in
set_option maxRecDepth 100000 in
theorem nrzi_End.calls (a0_0 : Bool) (a1_0 : Int) (a1_1 : Int) (a1_2 : Int) (a1_3 : Int) (a1_4 : Int) (a1_5 : Int) (a1_6 : Int) (a1_7 : ByteArray) (r : List (S33)) (w : World) (h : nrzi_End.f a0_0 a1_0 a1_1 a1_2 a1_3 a1_4 a1_5 a1_6 a1_7 = some r) :
  Calls Try.prog 15 #[.agg #[.bool a0_0], .agg #[.int .i64 a1_0, .int .i64 a1_1, .int .i64 a1_2, .int .i64 a1_3, .int .i64 a1_4, .int .i64 a1_5, .int .i64 a1_6, .string a1_7]] w fun e w' => ∃ v0_ : Value, e = .returned (v0_) ∧ Kd.R k33 33 w' w.heap.size (fun _ => True) v0_ r ∧ Below w.heap.size w w' := by
 have hu23 := Try.underlying23
 have hu28 := Try.underlying28
 have HB := Aside0.mk (Below.refl w.heap.size w)
 have H : (some ([] : List (S33))) = some r := h
 clear h
 obtain rfl := Option.some.inj H
 go_enter Try.func15, Try.ntmps15
 go_wp2_with (first | ((with_reducible refine gate_dst (N := 2) rfl ?_); refine box_event ?hg (N := 2) ?hd (cs := #[.bool a0_0]) (t := 23) ?hr ?_; (case hd => rfl); (case hg => rfl); (case hr => first | (go_simp; done) | (go_simp; rfl)); intro gb119 hg w3 hbox hb; have n0_ := Aside0.mk (below_step (hbw HB.out) hb); have n1_ := Aside0.mk (hbox); have n2_ := Aside0.mk ((by rw [hg]; exact (below_size (hbw HB.out)) : w.heap.size ≤ gb119)); have n3_ := Aside0.mk ((by rw [hg]; exact (below_size (hbw HB.out)) : w.heap.size ≤ gb119)); clear HB; have HB := n0_; have BK119 := n1_; have GW119 := n2_; have GE119 := n3_; clear n0_ n1_ n2_ n3_; clear hb hbox hg) | ((with_reducible refine gate_dst (N := 3) rfl ?_); refine box_event ?hg (N := 3) ?hd (cs := #[.int .i64 a1_0, .int .i64 a1_1, .int .i64 a1_2, .int .i64 a1_3, .int .i64 a1_4, .int .i64 a1_5, .int .i64 a1_6, .string a1_7]) (t := 28) ?hr ?_; (case hd => rfl); (case hg => rfl); (case hr => first | (go_simp; done) | (go_simp; rfl)); intro gb120 hg w4 hbox hb; have n0_ := Aside0.mk (blkb BK119.out hb); have n1_ := Aside0.mk (below_step (hbw HB.out) hb); have n2_ := Aside0.mk (hbox); have n3_ := Aside0.mk ((by rw [hg]; exact (below_size (hbw HB.out)) : w.heap.size ≤ gb120)); have n4_ := Aside0.mk ((by rw [hg]; exact (below_size (hbw HB.out)) : w.heap.size ≤ gb120)); have n5_ := Aside0.mk ((by rw [hg]; exact Nat.ne_of_lt (blkl BK119.out) : gb119 ≠ gb120)); have n6_ := Aside0.mk ((by rw [hg]; exact Nat.ne_of_gt (blkl BK119.out) : gb120 ≠ gb119)); clear BK119; clear HB; have BK119 := n0_; have HB := n1_; have BK120 := n2_; have GW120 := n3_; have GE120 := n4_; have NB119_120 := n5_; have NB120_119 := n6_; clear n0_ n1_ n2_ n3_ n4_ n5_ n6_; clear hb hbox hg))
 go_ret
 exact ⟨_, by first | rfl | (simp [errW_none, errW_some] <;> rfl) | (simp [*, errW_none, errW_some] <;> rfl), by first | exact Kd.R_nil _ _ _ _ _ | exact Kd.N_nil _ _ _ _ _ | exact Kd.V_nil _ _ _ _ _ | exact Kd.Q_nil _ _ _ _ _ | exact Kd.S_nil _ _ _ _ _, by repeat (first | (with_reducible first | exact HB.out | apply below_alloc | apply pw_below_drewN | apply below_drew1 | refine below_set ?_ GE119.out | refine below_set ?_ GE120.out) | exact HB.out)⟩

end Go.Proofs.Ytjgfhccibljkbaa.PNrziInverts
