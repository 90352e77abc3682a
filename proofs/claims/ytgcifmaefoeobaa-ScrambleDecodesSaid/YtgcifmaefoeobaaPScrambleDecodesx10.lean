-- Written by a program of this session (wip/tools/pr.py), which calls the kit's print with changes of its own.
import Derived.Test.YtgcifmaefoeobaaPScrambleDecodesx0
import Derived.Test.YtgcifmaefoeobaaPScrambleDecodesx8
import Derived.Test.YtgcifmaefoeobaaPScrambleDecodesx9
namespace Go.Proofs.Ytgcifmaefoeobaa.PScrambleDecodes
open Go.RowKit Go.Proofs.YtgcifmaefoeobaaW.PrintWords Go.Proofs.YtgcifmaefoeobaaW.PrintLast Go.Proofs.YtgcifmaefoeobaaW.PrintMore
attribute [local go_sem] max2_int min2_int max_two min_two max_three min_three max_four min_four   -- for this text's walks alone
set_option linter.unusedVariables false
set_option linter.unusedSimpArgs false

/-! ### signalbenchref20_Decode: function 20 -/
def signalbenchref20_Decode.l0 : Nat → List (S27) → List (S27) → Int → Int → Int → Int → Int → Int → Int → Int → Int → Int → ByteArray → Option ((List (S27)))
 | 0, _, _, _, _, _, _, _, _, _, _, _, _, _ => none
 | k + 1, x1, x5, x7, x237000, x237001, x249000, x249001, x249002, x249003, x249004, x249005, x249006, x249007 => if x7 < (x1.length : Int) then (if 0 ≤ x7 then ((signalbenchref20_Step.f k x237000 x237001 x249000 x249001 x249002 x249003 x249004 x249005 x249006 x249007 ((rd_T27 x1 x7).f0) ((rd_T27 x1 x7).f1) ((rd_T27 x1 x7).f2) ((rd_T27 x1 x7).f3) ((rd_T27 x1 x7).f4) ((rd_T27 x1 x7).f5) ((rd_T27 x1 x7).f6)).bind fun bt250 => (if x5.length + bt250.2.2.2.2.2.2.2.2.length < 2199023255552 then (signalbenchref20_Decode.l0 k x1 (x5 ++ bt250.2.2.2.2.2.2.2.2) (wrap64 (x7 + 1)) x237000 x237001 bt250.1 bt250.2.1 bt250.2.2.1 bt250.2.2.2.1 bt250.2.2.2.2.1 bt250.2.2.2.2.2.1 bt250.2.2.2.2.2.2.1 bt250.2.2.2.2.2.2.2.1) else (none))) else (none)) else (some x5)
def signalbenchref20_Decode.f (k : Nat) (a0_0 : Int) (a0_1 : Int) (l1 : List (S27)) : Option ((List (S27))) := (signalbenchref20_Start.f a0_0 a0_1).bind fun bt240 => (signalbenchref20_Decode.l0 k l1 (([] : List (S27))) 0 a0_0 a0_1 bt240.1 bt240.2.1 bt240.2.2.1 bt240.2.2.2.1 bt240.2.2.2.2.1 bt240.2.2.2.2.2.1 bt240.2.2.2.2.2.2.1 bt240.2.2.2.2.2.2.2)
theorem signalbenchref20_Decode.mono_l : ∀ k, (∀ y0 y1 y2 y3 y4 y5 y6 y7 y8 y9 y10 y11 y12, LeO (signalbenchref20_Decode.l0 k y0 y1 y2 y3 y4 y5 y6 y7 y8 y9 y10 y11 y12) (signalbenchref20_Decode.l0 (k + 1) y0 y1 y2 y3 y4 y5 y6 y7 y8 y9 y10 y11 y12))
 | 0 => fun _ _ _ _ _ _ _ _ _ _ _ _ _ r h => by simp [signalbenchref20_Decode.l0] at h
 | k + 1 => by
  have ih0 := signalbenchref20_Decode.mono_l k
  ·intro y0 y1 y2 y3 y4 y5 y6 y7 y8 y9 y10 y11 y12
   unfold signalbenchref20_Decode.l0
   repeat' first
   | (with_reducible exact ih0 _ _ _ _ _ _ _ _ _ _ _ _ _)
   | (with_reducible exact signalbenchref20_Step.mono _ _ _ _ _ _ _ _ _ _ _ _ _ _ _ _ _ _)
   | (with_reducible exact LeO.refl _)
   | (with_reducible exact LeO.none _)
   | (with_reducible refine LeO.ite ?_ ?_)
   | (with_reducible refine LeO.bind ?_ (fun _ => ?_))
   | exact ih0 _ _ _ _ _ _ _ _ _ _ _ _ _
   | exact signalbenchref20_Step.mono _ _ _ _ _ _ _ _ _ _ _ _ _ _ _ _ _ _
   | exact LeO.none _
   | refine LeO.ite ?_ ?_
   | refine LeO.bind ?_ (fun _ => ?_)
theorem signalbenchref20_Decode.mono : ∀ a0 a1 a2 k, LeO (signalbenchref20_Decode.f k a0 a1 a2) (signalbenchref20_Decode.f (k + 1) a0 a1 a2) := by
 intro a0 a1 a2 k
 have ih0 := signalbenchref20_Decode.mono_l k
 unfold signalbenchref20_Decode.f
 repeat' first
   | (with_reducible exact ih0 _ _ _ _ _ _ _ _ _ _ _ _ _)
   | (with_reducible exact signalbenchref20_Step.mono _ _ _ _ _ _ _ _ _ _ _ _ _ _ _ _ _ _)
   | (with_reducible exact LeO.refl _)
   | (with_reducible exact LeO.none _)
   | (with_reducible refine LeO.ite ?_ ?_)
   | (with_reducible refine LeO.bind ?_ (fun _ => ?_))
   | exact ih0 _ _ _ _ _ _ _ _ _ _ _ _ _
   | exact signalbenchref20_Step.mono _ _ _ _ _ _ _ _ _ _ _ _ _ _ _ _ _ _
   | exact LeO.none _
   | refine LeO.ite ?_ ?_
   | refine LeO.bind ?_ (fun _ => ?_)
def signalbenchref20_Decode.T6 : Bool × List (List Nat × List Nat) := (true, [([], []), ([], []), ([], []), ([], []), ([2, 3], [2, 3]), ([4], [4]), ([0, 1, 5], [0, 1, 5]), ([6], [6]), ([7], [7]), ([7], [7]), ([], []), ([10, 8, 6, 0, 1, 2, 3, 4, 5, 6, 7, 8, 10], [8, 10]), ([9, 11, 0, 1, 2, 3, 4, 5, 6, 7, 8, 9, 10, 11], [9])])
def signalbenchref20_Decode.B6 : List Nat := [0, 0, 0, 0, 12, 28, 63, 127, 255, 255, 0, 1535, 4095]
theorem signalbenchref20_Decode.tab6 : rtab .any (opsOf Try.f20 6) = signalbenchref20_Decode.T6 := by kernel_rfl
theorem signalbenchref20_Decode.bits6 : waitsOk signalbenchref20_Decode.T6.2 signalbenchref20_Decode.B6 = true := by kernel_rfl
set_option maxHeartbeats 8000000 in
set_option maxRecDepth 100000 in
theorem signalbenchref20_Decode.calls (k : Nat) (a0_0 : Int) (a0_1 : Int) (A1 : Option Addr) (c1 : Nat) (l1 : List (S27)) (r : List (S27)) (w : World) (hr1 : Kd.C k27 w A1 l1.length l1) (hc1 : l1.length ≤ c1) (h : signalbenchref20_Decode.f k a0_0 a0_1 l1 = some r) :
  Calls Try.prog 20 #[.agg #[.int .i64 a0_0, .int .i64 a0_1], .slice A1 l1.length c1] w fun e w' => ∃ v0_ : Value, e = .returned (v0_) ∧ Kd.R k27 27 w' w.heap.size (fun _ => True) v0_ r ∧ Below w.heap.size w w' := by
 have hu23 := Try.underlying23
 have hu25 := Try.underlying25
 have hu27 := Try.underlying27
 have HR1 := Aside0.mk hr1
 have HC1 := Aside0.mk hc1
 clear hr1 hc1
 have HB := Aside0.mk (Below.refl w.heap.size w)
 have H : ((signalbenchref20_Start.f a0_0 a0_1).bind fun bt240 => (signalbenchref20_Decode.l0 k l1 (([] : List (S27))) 0 a0_0 a0_1 bt240.1 bt240.2.1 bt240.2.2.1 bt240.2.2.2.1 bt240.2.2.2.2.1 bt240.2.2.2.2.2.1 bt240.2.2.2.2.2.2.1 bt240.2.2.2.2.2.2.2)) = some r := h
 clear h
 obtain ⟨y237, hy237⟩ : ∃ y_ : List (S27), y_ = (([] : List (S27))) := ⟨_, rfl⟩
 replace H : ((signalbenchref20_Start.f a0_0 a0_1).bind fun bt240 => (signalbenchref20_Decode.l0 k l1 y237 0 a0_0 a0_1 bt240.1 bt240.2.1 bt240.2.2.1 bt240.2.2.2.1 bt240.2.2.2.2.1 bt240.2.2.2.2.2.1 bt240.2.2.2.2.2.2.1 bt240.2.2.2.2.2.2.2)) = some r := by first | (rw [hy237]; with_reducible exact H) | (have H2_ := (Option.bind_some _ _).symm.trans H; rw [hy237]; with_reducible exact H2_) | (have H2_ := (Option.bind_some _ _).symm.trans H; with_reducible exact H2_) | with_reducible exact H | (rw [hy237]; exact H) | exact H
 have Ny237 := Aside0.mk hy237
 clear hy237
 replace H := Option.bind_eq_some_iff.mp H
 obtain ⟨⟨t240, t241, t242, t243, t244, t245, t246, t247⟩, A30, H⟩ := H
 replace H : (signalbenchref20_Decode.l0 k l1 y237 0 a0_0 a0_1 t240 t241 t242 t243 t244 t245 t246 t247) = some r := H
 have A3 := Aside0.mk A30
 clear A30
 have H' := Aside0.mk H
 clear H
 go_enter Try.func20, Try.ntmps20
 go_wp2_with (first | ((with_reducible refine gate_dst (N := 2) rfl ?_); refine box_event ?hg (N := 2) ?hd (cs := #[.int .i64 a0_0, .int .i64 a0_1]) (t := 23) ?hr ?_; (case hd => rfl); (case hg => rfl); (case hr => first | (go_simp; done) | (go_simp; rfl)); intro gb236 hg w4 hbox hb; have n0_ := Aside0.mk (below_step (hbw HB.out) hb); have n1_ := Aside0.mk (hbox); have n2_ := Aside0.mk ((by rw [hg]; exact (below_size (hbw HB.out)) : w.heap.size ≤ gb236)); have n3_ := Aside0.mk ((by rw [hg]; exact (below_size (hbw HB.out)) : w.heap.size ≤ gb236)); clear HB; have HB := n0_; have BK236 := n1_; have GW236 := n2_; have GE236 := n3_; clear n0_ n1_ n2_ n3_; clear hb hbox hg) | ((with_reducible refine gate_dst (N := 10) rfl ?_); refine Kd.R_lit k27 _ 27 ?hg (N := 10) ?hd (xs := ([] : List (S27))) (inner := []) (ok := fun _ => True) (okp := fun _ => True) ?hr ?hp (fun _ hk => hk) trivial (Below.refl _ _) (Nat.le_refl _) (by simp) ?_; (case hd => rfl); (case hg => rfl); (case hr => first | (go_simp; done) | (go_simp; rfl)); (case hp => exact (Reps.none _ _)); intro v238 w5 ho6 hb hg_ hnew_; clear hg_ hnew_; (first | rw [← Ny237.out] at ho6 | (simp only [Int.reduceToNat] at ho6; rw [← Ny237.out] at ho6)); have n0_ := Aside0.mk (Kd.R_lower ho6 (below_size (hbw HB.out))); have n1_ := Aside0.mk (blkb BK236.out hb); have n2_ := Aside0.mk (below_step (hbw HB.out) hb); clear BK236; clear HB; have HO239 := n0_; have BK236 := n1_; have HB := n2_; clear n0_ n1_ n2_; clear hb ho6; have hcz7_0 : w5.cell? ⟨gb236, 0, none⟩ = some (.int .i64 a0_0) := (blk_cell BK236.out 0).trans rfl; have hcz7_1 : w5.cell? ⟨gb236, 1, none⟩ = some (.int .i64 a0_1) := (blk_cell BK236.out 1).trans rfl; have hfz7_0 := blk_frozen BK236.out 0; have hfz7_1 := blk_frozen BK236.out 1) | ((with_reducible refine gate_callee (f := 17) rfl ?_); refine goesL_ (some 12) rfl rfl Try.func17 (by kernel_rfl) rfl #[.agg #[.int .i64 a0_0, .int .i64 a0_1]] rfl (by (try simp only [List.map_toArray, List.map_cons, List.map_nil]); first | done | rfl | (simp only [List.length_drop, List.length_take]; rfl)) ?_; (with_reducible refine (signalbenchref20_Start.calls a0_0 a0_1 t240 t241 t242 t243 t244 t245 t246 t247 _ A3.out).mono ?_); rintro e w8 ⟨rfl, hb⟩; refine ⟨_, rfl, ?_⟩; have n0_ := Aside0.mk (Kd.R_below (rkw HO239.out) hb); have n1_ := Aside0.mk (blkb BK236.out hb); have n2_ := Aside0.mk (below_step (hbw HB.out) hb); clear HO239; clear BK236; clear HB; have HO239 := n0_; have BK236 := n1_; have HB := n2_; clear n0_ n1_ n2_; (try clear hb); (try clear hb2); (try clear hk); (try clear hi)) | ((with_reducible refine gate_dst (N := 6) rfl ?_); refine box_event ?hg (N := 6) ?hd (cs := #[.int .i64 0, .int .i64 0, .int .i64 0, .int .i64 0, .int .i64 0, .int .i64 0, .int .i64 0, .string (⟨#[]⟩ : ByteArray)]) (t := 25) ?hr ?_; (case hd => rfl); (case hg => rfl); (case hr => first | (go_simp; done) | (go_simp; rfl)); intro gb248 hg w9 hbox hb; have n0_ := Aside0.mk (Kd.R_below (rkw HO239.out) hb); have n1_ := Aside0.mk (blkb BK236.out hb); have n2_ := Aside0.mk (below_step (hbw HB.out) hb); have n3_ := Aside0.mk (hbox); have n4_ := Aside0.mk ((by rw [hg]; exact (below_size (hbw HB.out)) : w.heap.size ≤ gb248)); have n5_ := Aside0.mk ((by rw [hg]; exact (below_size (hbw HB.out)) : w.heap.size ≤ gb248)); have n6_ := Aside0.mk ((by rw [hg]; exact Nat.ne_of_lt (blkl BK236.out) : gb236 ≠ gb248)); have n7_ := Aside0.mk ((by rw [hg]; exact Nat.ne_of_gt (blkl BK236.out) : gb248 ≠ gb236)); clear HO239; clear BK236; clear HB; have HO239 := n0_; have BK236 := n1_; have HB := n2_; have BK248 := n3_; have GW248 := n4_; have GE248 := n5_; have NB236_248 := n6_; have NB248_236 := n7_; clear n0_ n1_ n2_ n3_ n4_ n5_ n6_ n7_; clear hb hbox hg; have hnb10 := NB248_236.out; have hnc10 := NB236_248.out; have hcz11_0 : w9.cell? ⟨gb248, 0, none⟩ = some (.int .i64 0) := (blk_cell BK248.out 0).trans rfl; have hcz11_1 : w9.cell? ⟨gb248, 1, none⟩ = some (.int .i64 0) := (blk_cell BK248.out 1).trans rfl; have hcz11_2 : w9.cell? ⟨gb248, 2, none⟩ = some (.int .i64 0) := (blk_cell BK248.out 2).trans rfl; have hcz11_3 : w9.cell? ⟨gb248, 3, none⟩ = some (.int .i64 0) := (blk_cell BK248.out 3).trans rfl; have hcz11_4 : w9.cell? ⟨gb248, 4, none⟩ = some (.int .i64 0) := (blk_cell BK248.out 4).trans rfl; have hcz11_5 : w9.cell? ⟨gb248, 5, none⟩ = some (.int .i64 0) := (blk_cell BK248.out 5).trans rfl; have hcz11_6 : w9.cell? ⟨gb248, 6, none⟩ = some (.int .i64 0) := (blk_cell BK248.out 6).trans rfl; have hcz11_7 : w9.cell? ⟨gb248, 7, none⟩ = some (.string (⟨#[]⟩ : ByteArray)) := (blk_cell BK248.out 7).trans rfl; have hfz11_0 := blk_frozen BK248.out 0; have hfz11_1 := blk_frozen BK248.out 1; have hfz11_2 := blk_frozen BK248.out 2; have hfz11_3 := blk_frozen BK248.out 3; have hfz11_4 := blk_frozen BK248.out 4; have hfz11_5 := blk_frozen BK248.out 5; have hfz11_6 := blk_frozen BK248.out 6; have hfz11_7 := blk_frozen BK248.out 7))
 go_loopg [5, 7] k (fun kq v5 v7 w' => ∃ (x5_1 : List (S27)) (x7_1 : Int) (x249000_1 : Int) (x249001_1 : Int) (x249002_1 : Int) (x249003_1 : Int) (x249004_1 : Int) (x249005_1 : Int) (x249006_1 : Int) (x249007_1 : ByteArray), v7 = .int .i64 x7_1 ∧ Aside0 (signalbenchref20_Decode.l0 kq l1 x5_1 x7_1 a0_0 a0_1 x249000_1 x249001_1 x249002_1 x249003_1 x249004_1 x249005_1 x249006_1 x249007_1 = some r) ∧ Aside0 (kq ≤ k) ∧ Aside0 (Kd.R k27 27 w' w.heap.size (fun _ => True) v5 x5_1) ∧ Aside0 (w'.heap[gb236]? = some (.cells #[.int .i64 a0_0, .int .i64 a0_1] 23 (0, 0))) ∧ Aside0 (w'.heap[gb248]? = some (.cells #[.int .i64 x249000_1, .int .i64 x249001_1, .int .i64 x249002_1, .int .i64 x249003_1, .int .i64 x249004_1, .int .i64 x249005_1, .int .i64 x249006_1, .string x249007_1] 25 (0, 0))) ∧ Aside0 (Below w.heap.size w w'))
 case atStart => exact ⟨(y237), (0), (t240), (t241), (t242), (t243), (t244), (t245), (t246), (t247), (by first | rfl | (simp; done) | (simp [*]; done)), H', ⟨Nat.le_refl _⟩, ⟨by (with_reducible repeat (first | apply Kd.R_alloc | apply Kd.R_drewN | apply Kd.R_drew)); exact Kd.R_mono (Kd.R_far (p := ⟨gb248, 7, none⟩) (Kd.R_far (p := ⟨gb248, 6, none⟩) (Kd.R_far (p := ⟨gb248, 5, none⟩) (Kd.R_far (p := ⟨gb248, 4, none⟩) (Kd.R_far (p := ⟨gb248, 3, none⟩) (Kd.R_far (p := ⟨gb248, 2, none⟩) (Kd.R_far (p := ⟨gb248, 1, none⟩) (Kd.R_far (p := ⟨gb248, 0, none⟩) (Kd.R_types HO239.out BK248.out (by decide)) (fun _ hk => hk.2) (.int .i64 t240)) (fun _ hk => hk.2) (.int .i64 t241)) (fun _ hk => hk.2) (.int .i64 t242)) (fun _ hk => hk.2) (.int .i64 t243)) (fun _ hk => hk.2) (.int .i64 t244)) (fun _ hk => hk.2) (.int .i64 t245)) (fun _ hk => hk.2) (.int .i64 t246)) (fun _ hk => hk.2) (.string t247)) (fun _ hk => trivial)⟩, ⟨by (with_reducible repeat (first | refine blk_drewN ?_ _ | refine blk_drew ?_ | refine blk_alloc ?_ _)); refine blk_far ?_ NB236_248.out _; (with_reducible repeat (first | refine blk_drewN ?_ _ | refine blk_drew ?_ | refine blk_alloc ?_ _)); refine blk_far ?_ NB236_248.out _; (with_reducible repeat (first | refine blk_drewN ?_ _ | refine blk_drew ?_ | refine blk_alloc ?_ _)); refine blk_far ?_ NB236_248.out _; (with_reducible repeat (first | refine blk_drewN ?_ _ | refine blk_drew ?_ | refine blk_alloc ?_ _)); refine blk_far ?_ NB236_248.out _; (with_reducible repeat (first | refine blk_drewN ?_ _ | refine blk_drew ?_ | refine blk_alloc ?_ _)); refine blk_far ?_ NB236_248.out _; (with_reducible repeat (first | refine blk_drewN ?_ _ | refine blk_drew ?_ | refine blk_alloc ?_ _)); refine blk_far ?_ NB236_248.out _; (with_reducible repeat (first | refine blk_drewN ?_ _ | refine blk_drew ?_ | refine blk_alloc ?_ _)); refine blk_far ?_ NB236_248.out _; (with_reducible repeat (first | refine blk_drewN ?_ _ | refine blk_drew ?_ | refine blk_alloc ?_ _)); refine blk_far ?_ NB236_248.out _; (with_reducible repeat (first | refine blk_drewN ?_ _ | refine blk_drew ?_ | refine blk_alloc ?_ _)); exact BK236.out⟩, ⟨by (with_reducible repeat (first | refine blk_drewN ?_ _ | refine blk_drew ?_ | refine blk_alloc ?_ _)); refine blk_put (cs := #[.int .i64 t240, .int .i64 t241, .int .i64 t242, .int .i64 t243, .int .i64 t244, .int .i64 t245, .int .i64 t246, .string (⟨#[]⟩ : ByteArray)]) ?_ 7 _ rfl; (with_reducible repeat (first | refine blk_drewN ?_ _ | refine blk_drew ?_ | refine blk_alloc ?_ _)); refine blk_put (cs := #[.int .i64 t240, .int .i64 t241, .int .i64 t242, .int .i64 t243, .int .i64 t244, .int .i64 t245, .int .i64 0, .string (⟨#[]⟩ : ByteArray)]) ?_ 6 _ rfl; (with_reducible repeat (first | refine blk_drewN ?_ _ | refine blk_drew ?_ | refine blk_alloc ?_ _)); refine blk_put (cs := #[.int .i64 t240, .int .i64 t241, .int .i64 t242, .int .i64 t243, .int .i64 t244, .int .i64 0, .int .i64 0, .string (⟨#[]⟩ : ByteArray)]) ?_ 5 _ rfl; (with_reducible repeat (first | refine blk_drewN ?_ _ | refine blk_drew ?_ | refine blk_alloc ?_ _)); refine blk_put (cs := #[.int .i64 t240, .int .i64 t241, .int .i64 t242, .int .i64 t243, .int .i64 0, .int .i64 0, .int .i64 0, .string (⟨#[]⟩ : ByteArray)]) ?_ 4 _ rfl; (with_reducible repeat (first | refine blk_drewN ?_ _ | refine blk_drew ?_ | refine blk_alloc ?_ _)); refine blk_put (cs := #[.int .i64 t240, .int .i64 t241, .int .i64 t242, .int .i64 0, .int .i64 0, .int .i64 0, .int .i64 0, .string (⟨#[]⟩ : ByteArray)]) ?_ 3 _ rfl; (with_reducible repeat (first | refine blk_drewN ?_ _ | refine blk_drew ?_ | refine blk_alloc ?_ _)); refine blk_put (cs := #[.int .i64 t240, .int .i64 t241, .int .i64 0, .int .i64 0, .int .i64 0, .int .i64 0, .int .i64 0, .string (⟨#[]⟩ : ByteArray)]) ?_ 2 _ rfl; (with_reducible repeat (first | refine blk_drewN ?_ _ | refine blk_drew ?_ | refine blk_alloc ?_ _)); refine blk_put (cs := #[.int .i64 t240, .int .i64 0, .int .i64 0, .int .i64 0, .int .i64 0, .int .i64 0, .int .i64 0, .string (⟨#[]⟩ : ByteArray)]) ?_ 1 _ rfl; (with_reducible repeat (first | refine blk_drewN ?_ _ | refine blk_drew ?_ | refine blk_alloc ?_ _)); refine blk_put (cs := #[.int .i64 0, .int .i64 0, .int .i64 0, .int .i64 0, .int .i64 0, .int .i64 0, .int .i64 0, .string (⟨#[]⟩ : ByteArray)]) ?_ 0 _ rfl; (with_reducible repeat (first | refine blk_drewN ?_ _ | refine blk_drew ?_ | refine blk_alloc ?_ _)); exact BK248.out⟩, ⟨by repeat (first | (with_reducible first | exact HB.out | apply below_alloc | apply pw_below_drewN | apply below_drew1 | refine below_set ?_ GE236.out | refine below_set ?_ GE248.out) | exact HB.out)⟩⟩
 case round =>
  clear H'
  try clear c1
  try clear c2
  try clear p2
  try clear c10
  try clear hcz11_0
  try clear hcz11_1
  try clear hcz11_2
  try clear hcz11_3
  try clear hcz11_4
  try clear hcz11_5
  try clear hcz11_6
  try clear hcz11_7
  try clear hcz7_0
  try clear hcz7_1
  try clear hfz11_0
  try clear hfz11_1
  try clear hfz11_2
  try clear hfz11_3
  try clear hfz11_4
  try clear hfz11_5
  try clear hfz11_6
  try clear hfz11_7
  try clear hfz7_0
  try clear hfz7_1
  obtain ⟨x5_1, x7_1, x249000_1, x249001_1, x249002_1, x249003_1, x249004_1, x249005_1, x249006_1, x249007_1, rfl, HA, HK1, HO_5, BK236, BK248, HB⟩ := hrel
  cases gk with
  | zero => exact absurd HA.out (by simp [signalbenchref20_Decode.l0])
  | succ k1 =>
   have H := HA.out
   clear HA
   simp only [signalbenchref20_Decode.l0] at H
   by_cases c12 : x7_1 < (l1.length : Int)
   ·rw [if_pos c12] at H
    have c12b0 : decide (x7_1 < (l1.length : Int)) = true := decide_eq_true c12
    clear c12
    by_cases c13 : 0 ≤ x7_1
    ·rw [if_pos c13] at H
     have c13b0 : decide (0 ≤ x7_1) = true := decide_eq_true c13
     clear c13
     replace H := Option.bind_eq_some_iff.mp H
     obtain ⟨⟨t250, t251, t252, t253, t254, t255, t256, t257, t258⟩, A140, H⟩ := H
     replace H : (if x5_1.length + t258.length < 2199023255552 then (signalbenchref20_Decode.l0 k1 l1 (x5_1 ++ t258) (wrap64 (x7_1 + 1)) a0_0 a0_1 t250 t251 t252 t253 t254 t255 t256 t257) else (none)) = some r := H
     have A14 := Aside0.mk A140
     clear A140
     by_cases c15 : x5_1.length + t258.length < 2199023255552
     ·rw [if_pos c15] at H
      have LMc15 := Aside0.mk c15
      clear c15
      obtain ⟨y262, hy262⟩ : ∃ y_ : List (S27), y_ = (x5_1 ++ t258) := ⟨_, rfl⟩
      replace H : (signalbenchref20_Decode.l0 k1 l1 y262 (wrap64 (x7_1 + 1)) a0_0 a0_1 t250 t251 t252 t253 t254 t255 t256 t257) = some r := by first | (rw [hy262]; with_reducible exact H) | (have H2_ := (Option.bind_some _ _).symm.trans H; rw [hy262]; with_reducible exact H2_) | (have H2_ := (Option.bind_some _ _).symm.trans H; with_reducible exact H2_) | with_reducible exact H | (rw [hy262]; exact H) | exact H
      have Ny262 := Aside0.mk hy262
      clear hy262
      have H' := Aside0.mk H
      clear H
      try go_wp2
      have n0_ := Aside0.mk (Kd.R_drew HO_5.out)
      have n1_ := Aside0.mk (blk_drew BK236.out)
      have n2_ := Aside0.mk (blk_drew BK248.out)
      have n3_ := Aside0.mk (below_drew1 HB.out)
      clear HO_5
      clear BK236
      clear BK248
      clear HB
      have HO_5 := n0_
      have BK236 := n1_
      have BK248 := n2_
      have HB := n3_
      clear n0_ n1_ n2_ n3_
      have p249 : 0 ≤ (x7_1 : Int) := of_decide_eq_true (by first | (with_reducible assumption) | assumption)
      have q249 : x7_1 < (l1.length : Int) := of_decide_eq_true (by first | (with_reducible assumption) | assumption)
      obtain ⟨ad249, e249, hx249_0, hx249_1, hx249_2, hx249_3, hx249_4, hx249_5, hx249_6⟩ := at_T27 HR1.out x7_1 p249 q249
      have hw249_6 := hx249_6
      have hw249_5 := hx249_5
      have hw249_4 := hx249_4
      have hw249_3 := hx249_3
      have hw249_2 := hx249_2
      have hw249_1 := hx249_1
      have hw249_0 := hx249_0
      cases e249
      replace hx249_0 := (HB.out.cell (World.block_lt_of_cell? w _ hx249_0)).trans hx249_0
      replace hx249_1 := (HB.out.cell (World.block_lt_of_cell? w _ hx249_1)).trans hx249_1
      replace hx249_2 := (HB.out.cell (World.block_lt_of_cell? w _ hx249_2)).trans hx249_2
      replace hx249_3 := (HB.out.cell (World.block_lt_of_cell? w _ hx249_3)).trans hx249_3
      replace hx249_4 := (HB.out.cell (World.block_lt_of_cell? w _ hx249_4)).trans hx249_4
      replace hx249_5 := (HB.out.cell (World.block_lt_of_cell? w _ hx249_5)).trans hx249_5
      replace hx249_6 := (HB.out.cell (World.block_lt_of_cell? w _ hx249_6)).trans hx249_6
      replace p249 := eq_true p249
      replace q249 := eq_true q249
      refine start_ (n := 13) (S := fun w' => w'.cell? ⟨gb236, 0, none⟩ = some (.int .i64 a0_0) ∧ w'.cell? ⟨gb236, 1, none⟩ = some (.int .i64 a0_1) ∧ w'.cell? ⟨gb248, 0, none⟩ = some (.int .i64 x249000_1) ∧ w'.cell? ⟨gb248, 1, none⟩ = some (.int .i64 x249001_1) ∧ w'.cell? ⟨gb248, 2, none⟩ = some (.int .i64 x249002_1) ∧ w'.cell? ⟨gb248, 3, none⟩ = some (.int .i64 x249003_1) ∧ w'.cell? ⟨gb248, 4, none⟩ = some (.int .i64 x249004_1) ∧ w'.cell? ⟨gb248, 5, none⟩ = some (.int .i64 x249005_1) ∧ w'.cell? ⟨gb248, 6, none⟩ = some (.int .i64 x249006_1) ∧ w'.cell? ⟨gb248, 7, none⟩ = some (.string x249007_1) ∧ w'.cell? (ad249.add ((x7_1).toNat * 7)) = some (.int .i64 ((rd_T27 l1 x7_1).f0)) ∧ w'.cell? ⟨(ad249.add ((x7_1).toNat * 7)).block, (ad249.add ((x7_1).toNat * 7)).off + 1, none⟩ = some (.int .i64 ((rd_T27 l1 x7_1).f1)) ∧ w'.cell? ⟨(ad249.add ((x7_1).toNat * 7)).block, (ad249.add ((x7_1).toNat * 7)).off + 2, none⟩ = some (.int .i64 ((rd_T27 l1 x7_1).f2)) ∧ w'.cell? ⟨(ad249.add ((x7_1).toNat * 7)).block, (ad249.add ((x7_1).toNat * 7)).off + 3, none⟩ = some (.int .i64 ((rd_T27 l1 x7_1).f3)) ∧ w'.cell? ⟨(ad249.add ((x7_1).toNat * 7)).block, (ad249.add ((x7_1).toNat * 7)).off + 4, none⟩ = some (.int .i64 ((rd_T27 l1 x7_1).f4)) ∧ w'.cell? ⟨(ad249.add ((x7_1).toNat * 7)).block, (ad249.add ((x7_1).toNat * 7)).off + 5, none⟩ = some (.string ((rd_T27 l1 x7_1).f5)) ∧ w'.cell? ⟨(ad249.add ((x7_1).toNat * 7)).block, (ad249.add ((x7_1).toNat * 7)).off + 6, none⟩ = some (.int .i64 ((rd_T27 l1 x7_1).f6))) (ds := []) #[false, false, false, false, false, false, false, false, false, false, false, false, false] (by kernel_rfl) rfl rfl ⟨(blk_cell BK236.out 0).trans rfl, (blk_cell BK236.out 1).trans rfl, (blk_cell BK248.out 0).trans rfl, (blk_cell BK248.out 1).trans rfl, (blk_cell BK248.out 2).trans rfl, (blk_cell BK248.out 3).trans rfl, (blk_cell BK248.out 4).trans rfl, (blk_cell BK248.out 5).trans rfl, (blk_cell BK248.out 6).trans rfl, (blk_cell BK248.out 7).trans rfl, ((HB.out.cell (World.block_lt_of_cell? w _ hw249_0)).trans hw249_0), ((HB.out.cell (World.block_lt_of_cell? w _ hw249_1)).trans hw249_1), ((HB.out.cell (World.block_lt_of_cell? w _ hw249_2)).trans hw249_2), ((HB.out.cell (World.block_lt_of_cell? w _ hw249_3)).trans hw249_3), ((HB.out.cell (World.block_lt_of_cell? w _ hw249_4)).trans hw249_4), ((HB.out.cell (World.block_lt_of_cell? w _ hw249_5)).trans hw249_5), ((HB.out.cell (World.block_lt_of_cell? w _ hw249_6)).trans hw249_6)⟩ (fun hHeld => ?_); refine with_tabW signalbenchref20_Decode.tab6 signalbenchref20_Decode.bits6 (fun HT_ HW_ => ?_)
      generalize wr.drew = w16 at HO_5 BK236 BK248 HB hx249_0 hx249_1 hx249_2 hx249_3 hx249_4 hx249_5 hx249_6 hHeld ⊢
      refine pstep 2 (some 22) #[false, false, true, false, false, false, false, false, false, false, false, false, false] HT_.out ?_
      refine pstep 3 (some 23) #[false, false, true, true, false, false, false, false, false, false, false, false, false] HT_.out ?_
      refine pstep 4 (some 24) #[false, false, true, true, true, false, false, false, false, false, false, false, false] HT_.out ?_
      refine take_ (i := 0) (N := some 20) (v := ?_) (a' := ?_) #[true, false, true, true, true, false, false, false, false, false, false, false, false] rfl rfl (take_ofW HT_.out HW_.out (by kernel_rfl)) (fun _ _ _ h => h) (Or.inl ⟨by rfl, ?_⟩) hHeld ?_ ?_
      rotate_left
      ·rintro w' ⟨s0, s1, s2, s3, s4, s5, s6, s7, s8, s9, s10, s11, s12, s13, s14, s15, s16⟩
       go_simp
       with_reducible rfl
      rotate_left
      ·simp only [Act.put, nrm]
       rfl
      refine take_ (i := 1) (N := some 21) (v := ?_) (a' := ?_) #[true, true, true, true, true, false, false, false, false, false, false, false, false] rfl rfl (take_ofW HT_.out HW_.out (by kernel_rfl)) (fun _ _ _ h => h) (Or.inl ⟨by rfl, ?_⟩) hHeld ?_ ?_
      rotate_left
      ·rintro w' ⟨s0, s1, s2, s3, s4, s5, s6, s7, s8, s9, s10, s11, s12, s13, s14, s15, s16⟩
       go_simp
       with_reducible rfl
      rotate_left
      ·simp only [Act.put, nrm]
       rfl
      refine take_ (i := 5) (N := some 25) (v := ?_) (a' := ?_) #[true, true, true, true, true, true, false, false, false, false, false, false, false] rfl rfl (take_ofW HT_.out HW_.out (by kernel_rfl)) (fun _ _ _ h => h) (Or.inl ⟨by rfl, ?_⟩) hHeld ?_ ?_
      rotate_left
      ·rintro w' ⟨s0, s1, s2, s3, s4, s5, s6, s7, s8, s9, s10, s11, s12, s13, s14, s15, s16⟩
       go_simp
       with_reducible rfl
      rotate_left
      ·simp only [Act.put, nrm]
       rfl
      refine join_ (σ := Value × Nat) 2 #[true, true, true, true, true, true, true, true, true, true, true, false, false] (fun s_ => [(26, .tuple #[.agg #[.int .i64 t250, .int .i64 t251, .int .i64 t252, .int .i64 t253, .int .i64 t254, .int .i64 t255, .int .i64 t256, .string t257], s_.1]), (8, .pointer (some ⟨s_.2, 0, none⟩)), (19, .tuple #[.agg #[.int .i64 t250, .int .i64 t251, .int .i64 t252, .int .i64 t253, .int .i64 t254, .int .i64 t255, .int .i64 t256, .string t257], s_.1]), (27, .agg #[.int .i64 t250, .int .i64 t251, .int .i64 t252, .int .i64 t253, .int .i64 t254, .int .i64 t255, .int .i64 t256, .string t257]), (28, s_.1)]) (fun s_ w' => (w'.cell? ⟨gb236, 0, none⟩ = some (.int .i64 a0_0) ∧ w'.cell? ⟨gb236, 1, none⟩ = some (.int .i64 a0_1) ∧ w'.cell? ⟨gb248, 0, none⟩ = some (.int .i64 x249000_1) ∧ w'.cell? ⟨gb248, 1, none⟩ = some (.int .i64 x249001_1) ∧ w'.cell? ⟨gb248, 2, none⟩ = some (.int .i64 x249002_1) ∧ w'.cell? ⟨gb248, 3, none⟩ = some (.int .i64 x249003_1) ∧ w'.cell? ⟨gb248, 4, none⟩ = some (.int .i64 x249004_1) ∧ w'.cell? ⟨gb248, 5, none⟩ = some (.int .i64 x249005_1) ∧ w'.cell? ⟨gb248, 6, none⟩ = some (.int .i64 x249006_1) ∧ w'.cell? ⟨gb248, 7, none⟩ = some (.string x249007_1) ∧ w'.cell? (ad249.add ((x7_1).toNat * 7)) = some (.int .i64 ((rd_T27 l1 x7_1).f0)) ∧ w'.cell? ⟨(ad249.add ((x7_1).toNat * 7)).block, (ad249.add ((x7_1).toNat * 7)).off + 1, none⟩ = some (.int .i64 ((rd_T27 l1 x7_1).f1)) ∧ w'.cell? ⟨(ad249.add ((x7_1).toNat * 7)).block, (ad249.add ((x7_1).toNat * 7)).off + 2, none⟩ = some (.int .i64 ((rd_T27 l1 x7_1).f2)) ∧ w'.cell? ⟨(ad249.add ((x7_1).toNat * 7)).block, (ad249.add ((x7_1).toNat * 7)).off + 3, none⟩ = some (.int .i64 ((rd_T27 l1 x7_1).f3)) ∧ w'.cell? ⟨(ad249.add ((x7_1).toNat * 7)).block, (ad249.add ((x7_1).toNat * 7)).off + 4, none⟩ = some (.int .i64 ((rd_T27 l1 x7_1).f4)) ∧ w'.cell? ⟨(ad249.add ((x7_1).toNat * 7)).block, (ad249.add ((x7_1).toNat * 7)).off + 5, none⟩ = some (.string ((rd_T27 l1 x7_1).f5)) ∧ w'.cell? ⟨(ad249.add ((x7_1).toNat * 7)).block, (ad249.add ((x7_1).toNat * 7)).off + 6, none⟩ = some (.int .i64 ((rd_T27 l1 x7_1).f6))) ∧ (Kd.R k27 27 w' w.heap.size (fun k_ => some k_ ≠ (u5 : Value).ownBlock) s_.1 t258) ∧ (Kd.R k27 27 w' w.heap.size (fun k_ => some k_ ≠ (s_.1 : Value).ownBlock) u5 x5_1) ∧ (w'.heap[gb236]? = some (.cells #[.int .i64 a0_0, .int .i64 a0_1] 23 (0, 0))) ∧ (w'.heap[gb248]? = some (.cells #[.int .i64 x249000_1, .int .i64 x249001_1, .int .i64 x249002_1, .int .i64 x249003_1, .int .i64 x249004_1, .int .i64 x249005_1, .int .i64 x249006_1, .string x249007_1] 25 (0, 0))) ∧ (w'.heap[s_.2]? = some (.cells #[.int .i64 0, .int .i64 0, .int .i64 0, .int .i64 0, .int .i64 0, .int .i64 0, .int .i64 0, .string (⟨#[]⟩ : ByteArray)] 25 (0, 0))) ∧ (w.heap.size ≤ s_.2) ∧ (w.heap.size ≤ s_.2) ∧ (gb236 ≠ s_.2) ∧ (s_.2 ≠ gb236) ∧ (gb248 ≠ s_.2) ∧ (s_.2 ≠ gb248) ∧ (Below w.heap.size w w')) ?_ ?_
      rotate_left
      ·intro hCont
       refine two_ (i := 6) (j := 10) (Ni := some 26) (Nj := some 8) #[true, true, true, true, true, true, true, false, false, false, false, false, false] #[true, true, true, true, true, true, false, false, false, false, true, false, false] rfl rfl rfl rfl (two_of HT_.out (by kernel_rfl)) (by decide) (by decide) (fun K hK => ?_) (fun K hK => ?_)
       ·skip
        refine goes_ Try.func18 (by kernel_rfl) rfl #[.agg #[.int .i64 a0_0, .int .i64 a0_1], .agg #[.int .i64 x249000_1, .int .i64 x249001_1, .int .i64 x249002_1, .int .i64 x249003_1, .int .i64 x249004_1, .int .i64 x249005_1, .int .i64 x249006_1, .string x249007_1], .agg #[.int .i64 ((rd_T27 l1 x7_1).f0), .int .i64 ((rd_T27 l1 x7_1).f1), .int .i64 ((rd_T27 l1 x7_1).f2), .int .i64 ((rd_T27 l1 x7_1).f3), .int .i64 ((rd_T27 l1 x7_1).f4), .string ((rd_T27 l1 x7_1).f5), .int .i64 ((rd_T27 l1 x7_1).f6)]] (by rfl) rfl rfl (by (try simp only [List.map_toArray, List.map_cons, List.map_nil]); first | done | rfl | (simp only [List.length_drop, List.length_take]; rfl)) ?_
        with_reducible refine (signalbenchref20_Step.calls k1 a0_0 a0_1 x249000_1 x249001_1 x249002_1 x249003_1 x249004_1 x249005_1 x249006_1 x249007_1 ((rd_T27 l1 x7_1).f0) ((rd_T27 l1 x7_1).f1) ((rd_T27 l1 x7_1).f2) ((rd_T27 l1 x7_1).f3) ((rd_T27 l1 x7_1).f4) ((rd_T27 l1 x7_1).f5) ((rd_T27 l1 x7_1).f6) t250 t251 t252 t253 t254 t255 t256 t257 t258 _ A14.out).mono ?_
        rintro e w17 ⟨v259, rfl, ho0, hb⟩
        refine ⟨_, rfl, ?_⟩
        have n0_ := Aside0.mk (Kd.R_elder' (rkw HO_5.out) (Kd.R_base ho0) hb)
        have n1_ := Aside0.mk (Kd.R_lower (Kd.R_new' ho0 (Kd.R_lt (rkw HO_5.out))) (below_size (hbw HB.out)))
        have n2_ := Aside0.mk (blkb BK236.out hb)
        have n3_ := Aside0.mk (blkb BK248.out hb)
        have n4_ := Aside0.mk (below_step (hbw HB.out) hb)
        clear HO_5
        clear BK236
        clear BK248
        clear HB
        have HO_5 := n0_
        have HO260 := n1_
        have BK236 := n2_
        have BK248 := n3_
        have HB := n4_
        clear n0_ n1_ n2_ n3_ n4_
        (try clear hb)
        (try clear hb2)
        (try clear hk)
        (try clear hi)
        (try clear ho0)
        refine hK.out _ _ ⟨(blk_cell BK236.out 0).trans rfl, (blk_cell BK236.out 1).trans rfl, (blk_cell BK248.out 0).trans rfl, (blk_cell BK248.out 1).trans rfl, (blk_cell BK248.out 2).trans rfl, (blk_cell BK248.out 3).trans rfl, (blk_cell BK248.out 4).trans rfl, (blk_cell BK248.out 5).trans rfl, (blk_cell BK248.out 6).trans rfl, (blk_cell BK248.out 7).trans rfl, ((HB.out.cell (World.block_lt_of_cell? w _ hw249_0)).trans hw249_0), ((HB.out.cell (World.block_lt_of_cell? w _ hw249_1)).trans hw249_1), ((HB.out.cell (World.block_lt_of_cell? w _ hw249_2)).trans hw249_2), ((HB.out.cell (World.block_lt_of_cell? w _ hw249_3)).trans hw249_3), ((HB.out.cell (World.block_lt_of_cell? w _ hw249_4)).trans hw249_4), ((HB.out.cell (World.block_lt_of_cell? w _ hw249_5)).trans hw249_5), ((HB.out.cell (World.block_lt_of_cell? w _ hw249_6)).trans hw249_6)⟩ (fun hHeld => ?_)
        clear hK K
        refine norm_ (a' := ?_) ?_ ?_
        rotate_left
        ·show Act.put _ (some 26) _ = _
         simp only [Act.put, nrm]
         rfl
        refine pstep 7 (some 19) #[true, true, true, true, true, true, true, true, false, false, false, false, false] HT_.out ?_
        refine pstep 8 (some 27) #[true, true, true, true, true, true, true, true, true, false, false, false, false] HT_.out ?_
        refine pstep 9 (some 28) #[true, true, true, true, true, true, true, true, true, true, false, false, false] HT_.out ?_
        refine one_ (i := 10) (N := some 8) #[true, true, true, true, true, true, true, true, true, true, true, false, false] rfl rfl (one_of HT_.out (by kernel_rfl)) (by decide) (fun K hK => ?_)
        refine box_step ?hg (N := 8) ?hd (cs := #[.int .i64 0, .int .i64 0, .int .i64 0, .int .i64 0, .int .i64 0, .int .i64 0, .int .i64 0, .string (⟨#[]⟩ : ByteArray)]) (t := 25) ?hr ?_; (case hd => rfl); (case hg => rfl); (case hr => first | (go_simp; done) | (go_simp; rfl))
        intro gb261 hg w18 hbox hb
        have n0_ := Aside0.mk (Kd.R_below (rkw HO_5.out) hb)
        have n1_ := Aside0.mk (Kd.R_below (rkw HO260.out) hb)
        have n2_ := Aside0.mk (blkb BK236.out hb)
        have n3_ := Aside0.mk (blkb BK248.out hb)
        have n4_ := Aside0.mk (below_step (hbw HB.out) hb)
        have n5_ := Aside0.mk (hbox)
        have n6_ := Aside0.mk ((by rw [hg]; exact (below_size (hbw HB.out)) : w.heap.size ≤ gb261))
        have n7_ := Aside0.mk ((by rw [hg]; exact (below_size (hbw HB.out)) : w.heap.size ≤ gb261))
        have n8_ := Aside0.mk ((by rw [hg]; exact Nat.ne_of_lt (blkl BK236.out) : gb236 ≠ gb261))
        have n9_ := Aside0.mk ((by rw [hg]; exact Nat.ne_of_gt (blkl BK236.out) : gb261 ≠ gb236))
        have n10_ := Aside0.mk ((by rw [hg]; exact Nat.ne_of_lt (blkl BK248.out) : gb248 ≠ gb261))
        have n11_ := Aside0.mk ((by rw [hg]; exact Nat.ne_of_gt (blkl BK248.out) : gb261 ≠ gb248))
        clear HO_5
        clear HO260
        clear BK236
        clear BK248
        clear HB
        have HO_5 := n0_
        have HO260 := n1_
        have BK236 := n2_
        have BK248 := n3_
        have HB := n4_
        have BK261 := n5_
        have GW261 := n6_
        have GE261 := n7_
        have NB236_261 := n8_
        have NB261_236 := n9_
        have NB248_261 := n10_
        have NB261_248 := n11_
        clear n0_ n1_ n2_ n3_ n4_ n5_ n6_ n7_ n8_ n9_ n10_ n11_
        clear hb hbox hg
        refine hK.out _ _ ⟨(blk_cell BK236.out 0).trans rfl, (blk_cell BK236.out 1).trans rfl, (blk_cell BK248.out 0).trans rfl, (blk_cell BK248.out 1).trans rfl, (blk_cell BK248.out 2).trans rfl, (blk_cell BK248.out 3).trans rfl, (blk_cell BK248.out 4).trans rfl, (blk_cell BK248.out 5).trans rfl, (blk_cell BK248.out 6).trans rfl, (blk_cell BK248.out 7).trans rfl, ((HB.out.cell (World.block_lt_of_cell? w _ hw249_0)).trans hw249_0), ((HB.out.cell (World.block_lt_of_cell? w _ hw249_1)).trans hw249_1), ((HB.out.cell (World.block_lt_of_cell? w _ hw249_2)).trans hw249_2), ((HB.out.cell (World.block_lt_of_cell? w _ hw249_3)).trans hw249_3), ((HB.out.cell (World.block_lt_of_cell? w _ hw249_4)).trans hw249_4), ((HB.out.cell (World.block_lt_of_cell? w _ hw249_5)).trans hw249_5), ((HB.out.cell (World.block_lt_of_cell? w _ hw249_6)).trans hw249_6)⟩ (fun hHeld => ?_)
        clear hK K
        refine norm_ (a' := ?_) ?_ ?_
        rotate_left
        ·show Act.put _ (some 8) _ = _
         simp only [Act.put, nrm]
         rfl
        exact norm_ (by simp only [putAll, Act.put, List.setIfInBounds_toArray, List.set_cons_zero, List.set_cons_succ]) (hCont (v259, gb261) _ ⟨hHeld, (by (with_reducible repeat (first | apply Kd.R_alloc | apply Kd.R_drewN | apply Kd.R_drew)); exact Kd.R_mono HO260.out (fun _ hk => hk.2)), (by (with_reducible repeat (first | apply Kd.R_alloc | apply Kd.R_drewN | apply Kd.R_drew)); exact Kd.R_mono HO_5.out (fun _ hk => hk.2)), (bkw BK236.out), (bkw BK248.out), (bkw BK261.out), GW261.out, GE261.out, NB236_261.out, NB261_236.out, NB248_261.out, NB261_248.out, (hbw HB.out)⟩)
       ·skip
        refine box_step ?hg (N := 8) ?hd (cs := #[.int .i64 0, .int .i64 0, .int .i64 0, .int .i64 0, .int .i64 0, .int .i64 0, .int .i64 0, .string (⟨#[]⟩ : ByteArray)]) (t := 25) ?hr ?_; (case hd => rfl); (case hg => rfl); (case hr => first | (go_simp; done) | (go_simp; rfl))
        intro gb261 hg w17 hbox hb
        have n0_ := Aside0.mk (Kd.R_below (rkw HO_5.out) hb)
        have n1_ := Aside0.mk (blkb BK236.out hb)
        have n2_ := Aside0.mk (blkb BK248.out hb)
        have n3_ := Aside0.mk (below_step (hbw HB.out) hb)
        have n4_ := Aside0.mk (hbox)
        have n5_ := Aside0.mk ((by rw [hg]; exact (below_size (hbw HB.out)) : w.heap.size ≤ gb261))
        have n6_ := Aside0.mk ((by rw [hg]; exact (below_size (hbw HB.out)) : w.heap.size ≤ gb261))
        have n7_ := Aside0.mk ((by rw [hg]; exact Nat.ne_of_lt (blkl BK236.out) : gb236 ≠ gb261))
        have n8_ := Aside0.mk ((by rw [hg]; exact Nat.ne_of_gt (blkl BK236.out) : gb261 ≠ gb236))
        have n9_ := Aside0.mk ((by rw [hg]; exact Nat.ne_of_lt (blkl BK248.out) : gb248 ≠ gb261))
        have n10_ := Aside0.mk ((by rw [hg]; exact Nat.ne_of_gt (blkl BK248.out) : gb261 ≠ gb248))
        clear HO_5
        clear BK236
        clear BK248
        clear HB
        have HO_5 := n0_
        have BK236 := n1_
        have BK248 := n2_
        have HB := n3_
        have BK261 := n4_
        have GW261 := n5_
        have GE261 := n6_
        have NB236_261 := n7_
        have NB261_236 := n8_
        have NB248_261 := n9_
        have NB261_248 := n10_
        clear n0_ n1_ n2_ n3_ n4_ n5_ n6_ n7_ n8_ n9_ n10_
        clear hb hbox hg
        refine hK.out _ _ ⟨(blk_cell BK236.out 0).trans rfl, (blk_cell BK236.out 1).trans rfl, (blk_cell BK248.out 0).trans rfl, (blk_cell BK248.out 1).trans rfl, (blk_cell BK248.out 2).trans rfl, (blk_cell BK248.out 3).trans rfl, (blk_cell BK248.out 4).trans rfl, (blk_cell BK248.out 5).trans rfl, (blk_cell BK248.out 6).trans rfl, (blk_cell BK248.out 7).trans rfl, ((HB.out.cell (World.block_lt_of_cell? w _ hw249_0)).trans hw249_0), ((HB.out.cell (World.block_lt_of_cell? w _ hw249_1)).trans hw249_1), ((HB.out.cell (World.block_lt_of_cell? w _ hw249_2)).trans hw249_2), ((HB.out.cell (World.block_lt_of_cell? w _ hw249_3)).trans hw249_3), ((HB.out.cell (World.block_lt_of_cell? w _ hw249_4)).trans hw249_4), ((HB.out.cell (World.block_lt_of_cell? w _ hw249_5)).trans hw249_5), ((HB.out.cell (World.block_lt_of_cell? w _ hw249_6)).trans hw249_6)⟩ (fun hHeld => ?_)
        clear hK K
        refine norm_ (a' := ?_) ?_ ?_
        rotate_left
        ·show Act.put _ (some 8) _ = _
         simp only [Act.put, nrm]
         rfl
        refine one_ (i := 6) (N := some 26) #[true, true, true, true, true, true, true, false, false, false, true, false, false] rfl rfl (one_of HT_.out (by kernel_rfl)) (by decide) (fun K hK => ?_)
        refine goes_ Try.func18 (by kernel_rfl) rfl #[.agg #[.int .i64 a0_0, .int .i64 a0_1], .agg #[.int .i64 x249000_1, .int .i64 x249001_1, .int .i64 x249002_1, .int .i64 x249003_1, .int .i64 x249004_1, .int .i64 x249005_1, .int .i64 x249006_1, .string x249007_1], .agg #[.int .i64 ((rd_T27 l1 x7_1).f0), .int .i64 ((rd_T27 l1 x7_1).f1), .int .i64 ((rd_T27 l1 x7_1).f2), .int .i64 ((rd_T27 l1 x7_1).f3), .int .i64 ((rd_T27 l1 x7_1).f4), .string ((rd_T27 l1 x7_1).f5), .int .i64 ((rd_T27 l1 x7_1).f6)]] (by rfl) rfl rfl (by (try simp only [List.map_toArray, List.map_cons, List.map_nil]); first | done | rfl | (simp only [List.length_drop, List.length_take]; rfl)) ?_
        with_reducible refine (signalbenchref20_Step.calls k1 a0_0 a0_1 x249000_1 x249001_1 x249002_1 x249003_1 x249004_1 x249005_1 x249006_1 x249007_1 ((rd_T27 l1 x7_1).f0) ((rd_T27 l1 x7_1).f1) ((rd_T27 l1 x7_1).f2) ((rd_T27 l1 x7_1).f3) ((rd_T27 l1 x7_1).f4) ((rd_T27 l1 x7_1).f5) ((rd_T27 l1 x7_1).f6) t250 t251 t252 t253 t254 t255 t256 t257 t258 _ A14.out).mono ?_
        rintro e w18 ⟨v259, rfl, ho0, hb⟩
        refine ⟨_, rfl, ?_⟩
        have n0_ := Aside0.mk (Kd.R_elder' (rkw HO_5.out) (Kd.R_base ho0) hb)
        have n1_ := Aside0.mk (Kd.R_lower (Kd.R_new' ho0 (Kd.R_lt (rkw HO_5.out))) (below_size (hbw HB.out)))
        have n2_ := Aside0.mk (blkb BK236.out hb)
        have n3_ := Aside0.mk (blkb BK248.out hb)
        have n4_ := Aside0.mk (blkb BK261.out hb)
        have n5_ := Aside0.mk (below_step (hbw HB.out) hb)
        clear HO_5
        clear BK236
        clear BK248
        clear BK261
        clear HB
        have HO_5 := n0_
        have HO260 := n1_
        have BK236 := n2_
        have BK248 := n3_
        have BK261 := n4_
        have HB := n5_
        clear n0_ n1_ n2_ n3_ n4_ n5_
        (try clear hb)
        (try clear hb2)
        (try clear hk)
        (try clear hi)
        (try clear ho0)
        refine hK.out _ _ ⟨(blk_cell BK236.out 0).trans rfl, (blk_cell BK236.out 1).trans rfl, (blk_cell BK248.out 0).trans rfl, (blk_cell BK248.out 1).trans rfl, (blk_cell BK248.out 2).trans rfl, (blk_cell BK248.out 3).trans rfl, (blk_cell BK248.out 4).trans rfl, (blk_cell BK248.out 5).trans rfl, (blk_cell BK248.out 6).trans rfl, (blk_cell BK248.out 7).trans rfl, ((HB.out.cell (World.block_lt_of_cell? w _ hw249_0)).trans hw249_0), ((HB.out.cell (World.block_lt_of_cell? w _ hw249_1)).trans hw249_1), ((HB.out.cell (World.block_lt_of_cell? w _ hw249_2)).trans hw249_2), ((HB.out.cell (World.block_lt_of_cell? w _ hw249_3)).trans hw249_3), ((HB.out.cell (World.block_lt_of_cell? w _ hw249_4)).trans hw249_4), ((HB.out.cell (World.block_lt_of_cell? w _ hw249_5)).trans hw249_5), ((HB.out.cell (World.block_lt_of_cell? w _ hw249_6)).trans hw249_6)⟩ (fun hHeld => ?_)
        clear hK K
        refine norm_ (a' := ?_) ?_ ?_
        rotate_left
        ·show Act.put _ (some 26) _ = _
         simp only [Act.put, nrm]
         rfl
        refine pstep 7 (some 19) #[true, true, true, true, true, true, true, true, false, false, true, false, false] HT_.out ?_
        refine pstep 8 (some 27) #[true, true, true, true, true, true, true, true, true, false, true, false, false] HT_.out ?_
        refine pstep 9 (some 28) #[true, true, true, true, true, true, true, true, true, true, true, false, false] HT_.out ?_
        exact norm_ (by simp only [putAll, Act.put, List.setIfInBounds_toArray, List.set_cons_zero, List.set_cons_succ]) (hCont (v259, gb261) _ ⟨hHeld, (by (with_reducible repeat (first | apply Kd.R_alloc | apply Kd.R_drewN | apply Kd.R_drew)); exact Kd.R_mono HO260.out (fun _ hk => hk.2)), (by (with_reducible repeat (first | apply Kd.R_alloc | apply Kd.R_drewN | apply Kd.R_drew)); exact Kd.R_mono HO_5.out (fun _ hk => hk.2)), (bkw BK236.out), (bkw BK248.out), (bkw BK261.out), GW261.out, GE261.out, NB236_261.out, NB261_236.out, NB248_261.out, NB261_248.out, (hbw HB.out)⟩)
      rintro ⟨v259, gb261⟩ w19 ⟨hS_, h0_, h1_, h2_, h3_, h4_, h5_, h6_, h7_, h8_, h9_, h10_, h11_⟩
      have n0_ : Aside0 (Kd.R k27 27 w19 w.heap.size (fun k_ => some k_ ≠ (u5 : Value).ownBlock) v259 t258) := ⟨h0_⟩
      have n1_ : Aside0 (Kd.R k27 27 w19 w.heap.size (fun k_ => some k_ ≠ (v259 : Value).ownBlock) u5 x5_1) := ⟨h1_⟩
      have n2_ : Aside0 (w19.heap[gb236]? = some (.cells #[.int .i64 a0_0, .int .i64 a0_1] 23 (0, 0))) := ⟨h2_⟩
      have n3_ : Aside0 (w19.heap[gb248]? = some (.cells #[.int .i64 x249000_1, .int .i64 x249001_1, .int .i64 x249002_1, .int .i64 x249003_1, .int .i64 x249004_1, .int .i64 x249005_1, .int .i64 x249006_1, .string x249007_1] 25 (0, 0))) := ⟨h3_⟩
      have n4_ : Aside0 (w19.heap[gb261]? = some (.cells #[.int .i64 0, .int .i64 0, .int .i64 0, .int .i64 0, .int .i64 0, .int .i64 0, .int .i64 0, .string (⟨#[]⟩ : ByteArray)] 25 (0, 0))) := ⟨h4_⟩
      have n5_ : Aside0 (w.heap.size ≤ gb261) := ⟨h5_⟩
      have n6_ : Aside0 (w.heap.size ≤ gb261) := ⟨h6_⟩
      have n7_ : Aside0 (gb236 ≠ gb261) := ⟨h7_⟩
      have n8_ : Aside0 (gb261 ≠ gb236) := ⟨h8_⟩
      have n9_ : Aside0 (gb248 ≠ gb261) := ⟨h9_⟩
      have n10_ : Aside0 (gb261 ≠ gb248) := ⟨h10_⟩
      have n11_ : Aside0 (Below w.heap.size w w19) := ⟨h11_⟩
      clear HO_5
      clear BK236
      clear BK248
      clear HB
      clear h0_ h1_ h2_ h3_ h4_ h5_ h6_ h7_ h8_ h9_ h10_ h11_
      have HO260 := n0_
      have HO_5 := n1_
      have BK236 := n2_
      have BK248 := n3_
      have BK261 := n4_
      have GW261 := n5_
      have GE261 := n6_
      have NB236_261 := n7_
      have NB261_236 := n8_
      have NB248_261 := n9_
      have NB261_248 := n10_
      have HB := n11_
      clear n0_ n1_ n2_ n3_ n4_ n5_ n6_ n7_ n8_ n9_ n10_ n11_
      have hHeld : w19.cell? ⟨gb236, 0, none⟩ = some (.int .i64 a0_0) ∧ w19.cell? ⟨gb236, 1, none⟩ = some (.int .i64 a0_1) ∧ w19.cell? ⟨gb248, 0, none⟩ = some (.int .i64 x249000_1) ∧ w19.cell? ⟨gb248, 1, none⟩ = some (.int .i64 x249001_1) ∧ w19.cell? ⟨gb248, 2, none⟩ = some (.int .i64 x249002_1) ∧ w19.cell? ⟨gb248, 3, none⟩ = some (.int .i64 x249003_1) ∧ w19.cell? ⟨gb248, 4, none⟩ = some (.int .i64 x249004_1) ∧ w19.cell? ⟨gb248, 5, none⟩ = some (.int .i64 x249005_1) ∧ w19.cell? ⟨gb248, 6, none⟩ = some (.int .i64 x249006_1) ∧ w19.cell? ⟨gb248, 7, none⟩ = some (.string x249007_1) ∧ w19.cell? (ad249.add ((x7_1).toNat * 7)) = some (.int .i64 ((rd_T27 l1 x7_1).f0)) ∧ w19.cell? ⟨(ad249.add ((x7_1).toNat * 7)).block, (ad249.add ((x7_1).toNat * 7)).off + 1, none⟩ = some (.int .i64 ((rd_T27 l1 x7_1).f1)) ∧ w19.cell? ⟨(ad249.add ((x7_1).toNat * 7)).block, (ad249.add ((x7_1).toNat * 7)).off + 2, none⟩ = some (.int .i64 ((rd_T27 l1 x7_1).f2)) ∧ w19.cell? ⟨(ad249.add ((x7_1).toNat * 7)).block, (ad249.add ((x7_1).toNat * 7)).off + 3, none⟩ = some (.int .i64 ((rd_T27 l1 x7_1).f3)) ∧ w19.cell? ⟨(ad249.add ((x7_1).toNat * 7)).block, (ad249.add ((x7_1).toNat * 7)).off + 4, none⟩ = some (.int .i64 ((rd_T27 l1 x7_1).f4)) ∧ w19.cell? ⟨(ad249.add ((x7_1).toNat * 7)).block, (ad249.add ((x7_1).toNat * 7)).off + 5, none⟩ = some (.string ((rd_T27 l1 x7_1).f5)) ∧ w19.cell? ⟨(ad249.add ((x7_1).toNat * 7)).block, (ad249.add ((x7_1).toNat * 7)).off + 6, none⟩ = some (.int .i64 ((rd_T27 l1 x7_1).f6)) := hS_
      refine norm_ (a' := ?_) ?_ ?_
      rotate_left
      ·simp only [putAll, Act.put, List.setIfInBounds_toArray, List.set_cons_zero, List.set_cons_succ]
       rfl
      refine one_ (i := 11) (N := none) #[true, true, true, true, true, true, true, true, true, true, true, true, false] rfl rfl (one_of HT_.out (by kernel_rfl)) (by decide) (fun K hK => ?_)
      have hs20 : w19.cell? ⟨gb261, 0, none⟩ = some (.int .i64 0) := (blk_cell BK261.out 0).trans rfl
      have hfs20 := blk_frozen BK261.out 0
      have hns20_0 := NB236_261.out
      have hns20_1 := NB248_261.out
      have hms20_0 := NB261_236.out
      have hms20_1 := NB261_248.out
      have hs21 : w19.cell? ⟨gb261, 1, none⟩ = some (.int .i64 0) := (blk_cell BK261.out 1).trans rfl
      have hfs21 := blk_frozen BK261.out 1
      have hns21_0 := NB236_261.out
      have hns21_1 := NB248_261.out
      have hms21_0 := NB261_236.out
      have hms21_1 := NB261_248.out
      have hs22 : w19.cell? ⟨gb261, 2, none⟩ = some (.int .i64 0) := (blk_cell BK261.out 2).trans rfl
      have hfs22 := blk_frozen BK261.out 2
      have hns22_0 := NB236_261.out
      have hns22_1 := NB248_261.out
      have hms22_0 := NB261_236.out
      have hms22_1 := NB261_248.out
      have hs23 : w19.cell? ⟨gb261, 3, none⟩ = some (.int .i64 0) := (blk_cell BK261.out 3).trans rfl
      have hfs23 := blk_frozen BK261.out 3
      have hns23_0 := NB236_261.out
      have hns23_1 := NB248_261.out
      have hms23_0 := NB261_236.out
      have hms23_1 := NB261_248.out
      have hs24 : w19.cell? ⟨gb261, 4, none⟩ = some (.int .i64 0) := (blk_cell BK261.out 4).trans rfl
      have hfs24 := blk_frozen BK261.out 4
      have hns24_0 := NB236_261.out
      have hns24_1 := NB248_261.out
      have hms24_0 := NB261_236.out
      have hms24_1 := NB261_248.out
      have hs25 : w19.cell? ⟨gb261, 5, none⟩ = some (.int .i64 0) := (blk_cell BK261.out 5).trans rfl
      have hfs25 := blk_frozen BK261.out 5
      have hns25_0 := NB236_261.out
      have hns25_1 := NB248_261.out
      have hms25_0 := NB261_236.out
      have hms25_1 := NB261_248.out
      have hs26 : w19.cell? ⟨gb261, 6, none⟩ = some (.int .i64 0) := (blk_cell BK261.out 6).trans rfl
      have hfs26 := blk_frozen BK261.out 6
      have hns26_0 := NB236_261.out
      have hns26_1 := NB248_261.out
      have hms26_0 := NB261_236.out
      have hms26_1 := NB261_248.out
      have hs27 : w19.cell? ⟨gb261, 7, none⟩ = some (.string (⟨#[]⟩ : ByteArray)) := (blk_cell BK261.out 7).trans rfl
      have hfs27 := blk_frozen BK261.out 7
      have hns27_0 := NB236_261.out
      have hns27_1 := NB248_261.out
      have hms27_0 := NB261_236.out
      have hms27_1 := NB261_248.out
      refine skip_ (w1 := ?_) (by rfl) rfl ?_ ?_
      rotate_left
      ·go_simp
       rfl
      refine hK.out _ _ ⟨((far8 (g := gb261) NB236_261.out).trans (hHeld.1)), ((far8 (g := gb261) NB236_261.out).trans (hHeld.2.1)), ((far8 (g := gb261) NB248_261.out).trans (hHeld.2.2.1)), ((far8 (g := gb261) NB248_261.out).trans (hHeld.2.2.2.1)), ((far8 (g := gb261) NB248_261.out).trans (hHeld.2.2.2.2.1)), ((far8 (g := gb261) NB248_261.out).trans (hHeld.2.2.2.2.2.1)), ((far8 (g := gb261) NB248_261.out).trans (hHeld.2.2.2.2.2.2.1)), ((far8 (g := gb261) NB248_261.out).trans (hHeld.2.2.2.2.2.2.2.1)), ((far8 (g := gb261) NB248_261.out).trans (hHeld.2.2.2.2.2.2.2.2.1)), ((far8 (g := gb261) NB248_261.out).trans (hHeld.2.2.2.2.2.2.2.2.2.1)), ((far8 (g := gb261) (by have e_ := Nat.ne_of_lt (Nat.lt_of_lt_of_le (by have := World.block_lt_of_cell? _ _ hw249_0; first | rwa [add_block] at this | exact this) GW261.out); first | exact e_ | (rw [add_block]; exact e_) | (show (Addr.add _ _).block ≠ _; rw [add_block]; exact e_) | (dsimp only; exact e_))).trans (hHeld.2.2.2.2.2.2.2.2.2.2.1)), ((far8 (g := gb261) (by have e_ := Nat.ne_of_lt (Nat.lt_of_lt_of_le (by have := World.block_lt_of_cell? _ _ hw249_1; first | rwa [add_block] at this | exact this) GW261.out); first | exact e_ | (rw [add_block]; exact e_) | (show (Addr.add _ _).block ≠ _; rw [add_block]; exact e_) | (dsimp only; exact e_))).trans (hHeld.2.2.2.2.2.2.2.2.2.2.2.1)), ((far8 (g := gb261) (by have e_ := Nat.ne_of_lt (Nat.lt_of_lt_of_le (by have := World.block_lt_of_cell? _ _ hw249_2; first | rwa [add_block] at this | exact this) GW261.out); first | exact e_ | (rw [add_block]; exact e_) | (show (Addr.add _ _).block ≠ _; rw [add_block]; exact e_) | (dsimp only; exact e_))).trans (hHeld.2.2.2.2.2.2.2.2.2.2.2.2.1)), ((far8 (g := gb261) (by have e_ := Nat.ne_of_lt (Nat.lt_of_lt_of_le (by have := World.block_lt_of_cell? _ _ hw249_3; first | rwa [add_block] at this | exact this) GW261.out); first | exact e_ | (rw [add_block]; exact e_) | (show (Addr.add _ _).block ≠ _; rw [add_block]; exact e_) | (dsimp only; exact e_))).trans (hHeld.2.2.2.2.2.2.2.2.2.2.2.2.2.1)), ((far8 (g := gb261) (by have e_ := Nat.ne_of_lt (Nat.lt_of_lt_of_le (by have := World.block_lt_of_cell? _ _ hw249_4; first | rwa [add_block] at this | exact this) GW261.out); first | exact e_ | (rw [add_block]; exact e_) | (show (Addr.add _ _).block ≠ _; rw [add_block]; exact e_) | (dsimp only; exact e_))).trans (hHeld.2.2.2.2.2.2.2.2.2.2.2.2.2.2.1)), ((far8 (g := gb261) (by have e_ := Nat.ne_of_lt (Nat.lt_of_lt_of_le (by have := World.block_lt_of_cell? _ _ hw249_5; first | rwa [add_block] at this | exact this) GW261.out); first | exact e_ | (rw [add_block]; exact e_) | (show (Addr.add _ _).block ≠ _; rw [add_block]; exact e_) | (dsimp only; exact e_))).trans (hHeld.2.2.2.2.2.2.2.2.2.2.2.2.2.2.2.1)), ((far8 (g := gb261) (by have e_ := Nat.ne_of_lt (Nat.lt_of_lt_of_le (by have := World.block_lt_of_cell? _ _ hw249_6; first | rwa [add_block] at this | exact this) GW261.out); first | exact e_ | (rw [add_block]; exact e_) | (show (Addr.add _ _).block ≠ _; rw [add_block]; exact e_) | (dsimp only; exact e_))).trans (hHeld.2.2.2.2.2.2.2.2.2.2.2.2.2.2.2.2))⟩ (fun hHeld => ?_)
      clear hK K
      refine pstep 12 (some 9) #[true, true, true, true, true, true, true, true, true, true, true, true, true] HT_.out ?_
      refine done_ (done_of HT_.out (by kernel_rfl)) ?_
      obtain ⟨Ao29, co29, eo29⟩ := Kd.R_slice HO260.out
      subst eo29
      try go_wp2_with (first | ((with_reducible refine gate_builtin (b := .append) (xs := #[.tmp 29, .tmp 30]) rfl ?_); at_builtin; refine Kd.R_append_rows k27 (w0 := w) w.heap.size rfl (.tmp 29) (.tmp 30) 31 27 (.agg #[(.int .i64 0), (.int .i64 0), (.int .i64 0), (.int .i64 0), (.int .i64 0), (.string ⟨#[]⟩), (.int .i64 0)]) 64 rfl Try.underlying31 info27 rfl (by decide) (by omega) u5 x5_1 t258 _ _ _ (fun k_ => some k_ ≠ (.slice Ao29 t258.length co29 : Value).ownBlock) (fun _ => False) rfl rfl ?aO ?aR (fun _ _ h => h) (fun _ h => h.elim) ?aF ?aB ?aS ?aL ?_; (case aR => refine (Kd.R_reads' (e := 27) (base := w.heap.size) (ok := fun k_ => some k_ ≠ (u5 : Value).ownBlock) (n := t258.length) (c := co29) ?_).2.2; exact (by (with_reducible repeat (first | apply Kd.R_alloc | apply Kd.R_drewN | apply Kd.R_drew)); exact (Kd.R_mono (Kd.R_far (p := ⟨gb261, 7, none⟩) (Kd.R_far (p := ⟨gb261, 6, none⟩) (Kd.R_far (p := ⟨gb261, 5, none⟩) (Kd.R_far (p := ⟨gb261, 4, none⟩) (Kd.R_far (p := ⟨gb261, 3, none⟩) (Kd.R_far (p := ⟨gb261, 2, none⟩) (Kd.R_far (p := ⟨gb261, 1, none⟩) (Kd.R_far (p := ⟨gb261, 0, none⟩) (Kd.R_types HO260.out BK261.out (by decide)) (fun _ hk => hk.2) (.int .i64 t250)) (fun _ hk => hk.2) (.int .i64 t251)) (fun _ hk => hk.2) (.int .i64 t252)) (fun _ hk => hk.2) (.int .i64 t253)) (fun _ hk => hk.2) (.int .i64 t254)) (fun _ hk => hk.2) (.int .i64 t255)) (fun _ hk => hk.2) (.int .i64 t256)) (fun _ hk => hk.2) (.string t257)) (fun _ h_ => h_.1)))); (case aB => exact (hbw HB.out)); (case aF => exact (fun k_ hk => Kd.fresh' (Kd.R_lt (by (with_reducible repeat (first | apply Kd.R_alloc | apply Kd.R_drewN | apply Kd.R_drew)); exact (Kd.R_mono (Kd.R_far (p := ⟨gb261, 7, none⟩) (Kd.R_far (p := ⟨gb261, 6, none⟩) (Kd.R_far (p := ⟨gb261, 5, none⟩) (Kd.R_far (p := ⟨gb261, 4, none⟩) (Kd.R_far (p := ⟨gb261, 3, none⟩) (Kd.R_far (p := ⟨gb261, 2, none⟩) (Kd.R_far (p := ⟨gb261, 1, none⟩) (Kd.R_far (p := ⟨gb261, 0, none⟩) (Kd.R_types HO260.out BK261.out (by decide)) (fun _ hk => hk.2) (.int .i64 t250)) (fun _ hk => hk.2) (.int .i64 t251)) (fun _ hk => hk.2) (.int .i64 t252)) (fun _ hk => hk.2) (.int .i64 t253)) (fun _ hk => hk.2) (.int .i64 t254)) (fun _ hk => hk.2) (.int .i64 t255)) (fun _ hk => hk.2) (.int .i64 t256)) (fun _ hk => hk.2) (.string t257)) (fun _ h_ => h_.1)))) k_ hk)); (case aO => exact (by (with_reducible repeat (first | apply Kd.R_alloc | apply Kd.R_drewN | apply Kd.R_drew)); exact Kd.R_mono (Kd.R_far (p := ⟨gb261, 7, none⟩) (Kd.R_far (p := ⟨gb261, 6, none⟩) (Kd.R_far (p := ⟨gb261, 5, none⟩) (Kd.R_far (p := ⟨gb261, 4, none⟩) (Kd.R_far (p := ⟨gb261, 3, none⟩) (Kd.R_far (p := ⟨gb261, 2, none⟩) (Kd.R_far (p := ⟨gb261, 1, none⟩) (Kd.R_far (p := ⟨gb261, 0, none⟩) (Kd.R_types HO_5.out BK261.out (by decide)) (fun _ hk => hk.2) (.int .i64 t250)) (fun _ hk => hk.2) (.int .i64 t251)) (fun _ hk => hk.2) (.int .i64 t252)) (fun _ hk => hk.2) (.int .i64 t253)) (fun _ hk => hk.2) (.int .i64 t254)) (fun _ hk => hk.2) (.int .i64 t255)) (fun _ hk => hk.2) (.int .i64 t256)) (fun _ hk => hk.2) (.string t257)) (fun _ hk => hk.1))); (case aS => exact (below_size (hbw HB.out))); (case aL => have := LMc15.out; omega); intro v263 w28 ho hb hg hat; rw [← Ny262.out] at ho; have n0_ := Aside0.mk (blk_grown (g := gb236) (o := .cells #[.int .i64 a0_0, .int .i64 a0_1] 23 (0, 0)) (by (with_reducible repeat (first | refine blk_drewN ?_ _ | refine blk_drew ?_ | refine blk_alloc ?_ _)); refine blk_far ?_ NB236_261.out _; (with_reducible repeat (first | refine blk_drewN ?_ _ | refine blk_drew ?_ | refine blk_alloc ?_ _)); refine blk_far ?_ NB236_261.out _; (with_reducible repeat (first | refine blk_drewN ?_ _ | refine blk_drew ?_ | refine blk_alloc ?_ _)); refine blk_far ?_ NB236_261.out _; (with_reducible repeat (first | refine blk_drewN ?_ _ | refine blk_drew ?_ | refine blk_alloc ?_ _)); refine blk_far ?_ NB236_261.out _; (with_reducible repeat (first | refine blk_drewN ?_ _ | refine blk_drew ?_ | refine blk_alloc ?_ _)); refine blk_far ?_ NB236_261.out _; (with_reducible repeat (first | refine blk_drewN ?_ _ | refine blk_drew ?_ | refine blk_alloc ?_ _)); refine blk_far ?_ NB236_261.out _; (with_reducible repeat (first | refine blk_drewN ?_ _ | refine blk_drew ?_ | refine blk_alloc ?_ _)); refine blk_far ?_ NB236_261.out _; (with_reducible repeat (first | refine blk_drewN ?_ _ | refine blk_drew ?_ | refine blk_alloc ?_ _)); refine blk_far ?_ NB236_261.out _; (with_reducible repeat (first | refine blk_drewN ?_ _ | refine blk_drew ?_ | refine blk_alloc ?_ _)); exact BK236.out) hg (Kd.R_ne HO_5.out BK236.out (by decide))); have n1_ := Aside0.mk (blk_grown (g := gb248) (o := .cells #[.int .i64 x249000_1, .int .i64 x249001_1, .int .i64 x249002_1, .int .i64 x249003_1, .int .i64 x249004_1, .int .i64 x249005_1, .int .i64 x249006_1, .string x249007_1] 25 (0, 0)) (by (with_reducible repeat (first | refine blk_drewN ?_ _ | refine blk_drew ?_ | refine blk_alloc ?_ _)); refine blk_far ?_ NB248_261.out _; (with_reducible repeat (first | refine blk_drewN ?_ _ | refine blk_drew ?_ | refine blk_alloc ?_ _)); refine blk_far ?_ NB248_261.out _; (with_reducible repeat (first | refine blk_drewN ?_ _ | refine blk_drew ?_ | refine blk_alloc ?_ _)); refine blk_far ?_ NB248_261.out _; (with_reducible repeat (first | refine blk_drewN ?_ _ | refine blk_drew ?_ | refine blk_alloc ?_ _)); refine blk_far ?_ NB248_261.out _; (with_reducible repeat (first | refine blk_drewN ?_ _ | refine blk_drew ?_ | refine blk_alloc ?_ _)); refine blk_far ?_ NB248_261.out _; (with_reducible repeat (first | refine blk_drewN ?_ _ | refine blk_drew ?_ | refine blk_alloc ?_ _)); refine blk_far ?_ NB248_261.out _; (with_reducible repeat (first | refine blk_drewN ?_ _ | refine blk_drew ?_ | refine blk_alloc ?_ _)); refine blk_far ?_ NB248_261.out _; (with_reducible repeat (first | refine blk_drewN ?_ _ | refine blk_drew ?_ | refine blk_alloc ?_ _)); refine blk_far ?_ NB248_261.out _; (with_reducible repeat (first | refine blk_drewN ?_ _ | refine blk_drew ?_ | refine blk_alloc ?_ _)); exact BK248.out) hg (Kd.R_ne HO_5.out BK248.out (by decide))); have n2_ := Aside0.mk (Kd.R_after (ok := (fun _ => True)) (by (with_reducible repeat (first | apply Kd.R_alloc | apply Kd.R_drewN | apply Kd.R_drew)); exact Kd.R_mono (Kd.R_far (p := ⟨gb261, 7, none⟩) (Kd.R_far (p := ⟨gb261, 6, none⟩) (Kd.R_far (p := ⟨gb261, 5, none⟩) (Kd.R_far (p := ⟨gb261, 4, none⟩) (Kd.R_far (p := ⟨gb261, 3, none⟩) (Kd.R_far (p := ⟨gb261, 2, none⟩) (Kd.R_far (p := ⟨gb261, 1, none⟩) (Kd.R_far (p := ⟨gb261, 0, none⟩) (Kd.R_types HO260.out BK261.out (by decide)) (fun _ hk => hk.2) (.int .i64 t250)) (fun _ hk => hk.2) (.int .i64 t251)) (fun _ hk => hk.2) (.int .i64 t252)) (fun _ hk => hk.2) (.int .i64 t253)) (fun _ hk => hk.2) (.int .i64 t254)) (fun _ hk => hk.2) (.int .i64 t255)) (fun _ hk => hk.2) (.int .i64 t256)) (fun _ hk => hk.2) (.string t257)) (fun _ hk => ⟨trivial, hk.1⟩)) hg hat); have n3_ := Aside0.mk (blk_grown (g := gb261) (o := .cells #[.int .i64 t250, .int .i64 t251, .int .i64 t252, .int .i64 t253, .int .i64 t254, .int .i64 t255, .int .i64 t256, .string t257] 25 (0, 0)) (by (with_reducible repeat (first | refine blk_drewN ?_ _ | refine blk_drew ?_ | refine blk_alloc ?_ _)); refine blk_put (cs := #[.int .i64 t250, .int .i64 t251, .int .i64 t252, .int .i64 t253, .int .i64 t254, .int .i64 t255, .int .i64 t256, .string (⟨#[]⟩ : ByteArray)]) ?_ 7 _ rfl; (with_reducible repeat (first | refine blk_drewN ?_ _ | refine blk_drew ?_ | refine blk_alloc ?_ _)); refine blk_put (cs := #[.int .i64 t250, .int .i64 t251, .int .i64 t252, .int .i64 t253, .int .i64 t254, .int .i64 t255, .int .i64 0, .string (⟨#[]⟩ : ByteArray)]) ?_ 6 _ rfl; (with_reducible repeat (first | refine blk_drewN ?_ _ | refine blk_drew ?_ | refine blk_alloc ?_ _)); refine blk_put (cs := #[.int .i64 t250, .int .i64 t251, .int .i64 t252, .int .i64 t253, .int .i64 t254, .int .i64 0, .int .i64 0, .string (⟨#[]⟩ : ByteArray)]) ?_ 5 _ rfl; (with_reducible repeat (first | refine blk_drewN ?_ _ | refine blk_drew ?_ | refine blk_alloc ?_ _)); refine blk_put (cs := #[.int .i64 t250, .int .i64 t251, .int .i64 t252, .int .i64 t253, .int .i64 0, .int .i64 0, .int .i64 0, .string (⟨#[]⟩ : ByteArray)]) ?_ 4 _ rfl; (with_reducible repeat (first | refine blk_drewN ?_ _ | refine blk_drew ?_ | refine blk_alloc ?_ _)); refine blk_put (cs := #[.int .i64 t250, .int .i64 t251, .int .i64 t252, .int .i64 0, .int .i64 0, .int .i64 0, .int .i64 0, .string (⟨#[]⟩ : ByteArray)]) ?_ 3 _ rfl; (with_reducible repeat (first | refine blk_drewN ?_ _ | refine blk_drew ?_ | refine blk_alloc ?_ _)); refine blk_put (cs := #[.int .i64 t250, .int .i64 t251, .int .i64 0, .int .i64 0, .int .i64 0, .int .i64 0, .int .i64 0, .string (⟨#[]⟩ : ByteArray)]) ?_ 2 _ rfl; (with_reducible repeat (first | refine blk_drewN ?_ _ | refine blk_drew ?_ | refine blk_alloc ?_ _)); refine blk_put (cs := #[.int .i64 t250, .int .i64 0, .int .i64 0, .int .i64 0, .int .i64 0, .int .i64 0, .int .i64 0, .string (⟨#[]⟩ : ByteArray)]) ?_ 1 _ rfl; (with_reducible repeat (first | refine blk_drewN ?_ _ | refine blk_drew ?_ | refine blk_alloc ?_ _)); refine blk_put (cs := #[.int .i64 0, .int .i64 0, .int .i64 0, .int .i64 0, .int .i64 0, .int .i64 0, .int .i64 0, .string (⟨#[]⟩ : ByteArray)]) ?_ 0 _ rfl; (with_reducible repeat (first | refine blk_drewN ?_ _ | refine blk_drew ?_ | refine blk_alloc ?_ _)); exact BK261.out) hg (Kd.R_ne HO_5.out BK261.out (by decide))); have n4_ := Aside0.mk (hb); have n5_ := Aside0.mk (ho); clear BK236; clear BK248; clear HO260; clear BK261; clear HB; clear HO_5; have BK236 := n0_; have BK248 := n1_; have HO260 := n2_; have BK261 := n3_; have HB := n4_; have HO264 := n5_; clear n0_ n1_ n2_ n3_ n4_ n5_; clear ho hb hg hat; have hnb30 := NB261_236.out; have hnc30 := NB236_261.out; have hnb31 := NB261_248.out; have hnc31 := NB248_261.out; have hcz32_0 : w28.cell? ⟨gb261, 0, none⟩ = some (.int .i64 t250) := (blk_cell BK261.out 0).trans rfl; have hcz32_1 : w28.cell? ⟨gb261, 1, none⟩ = some (.int .i64 t251) := (blk_cell BK261.out 1).trans rfl; have hcz32_2 : w28.cell? ⟨gb261, 2, none⟩ = some (.int .i64 t252) := (blk_cell BK261.out 2).trans rfl; have hcz32_3 : w28.cell? ⟨gb261, 3, none⟩ = some (.int .i64 t253) := (blk_cell BK261.out 3).trans rfl; have hcz32_4 : w28.cell? ⟨gb261, 4, none⟩ = some (.int .i64 t254) := (blk_cell BK261.out 4).trans rfl; have hcz32_5 : w28.cell? ⟨gb261, 5, none⟩ = some (.int .i64 t255) := (blk_cell BK261.out 5).trans rfl; have hcz32_6 : w28.cell? ⟨gb261, 6, none⟩ = some (.int .i64 t256) := (blk_cell BK261.out 6).trans rfl; have hcz32_7 : w28.cell? ⟨gb261, 7, none⟩ = some (.string t257) := (blk_cell BK261.out 7).trans rfl; have hfz32_0 := blk_frozen BK261.out 0; have hfz32_1 := blk_frozen BK261.out 1; have hfz32_2 := blk_frozen BK261.out 2; have hfz32_3 := blk_frozen BK261.out 3; have hfz32_4 := blk_frozen BK261.out 4; have hfz32_5 := blk_frozen BK261.out 5; have hfz32_6 := blk_frozen BK261.out 6; have hfz32_7 := blk_frozen BK261.out 7; have hnb33 := NB248_236.out; have hnc33 := NB236_248.out; have hcz34_0 : w28.cell? ⟨gb248, 0, none⟩ = some (.int .i64 x249000_1) := (blk_cell BK248.out 0).trans rfl; have hcz34_1 : w28.cell? ⟨gb248, 1, none⟩ = some (.int .i64 x249001_1) := (blk_cell BK248.out 1).trans rfl; have hcz34_2 : w28.cell? ⟨gb248, 2, none⟩ = some (.int .i64 x249002_1) := (blk_cell BK248.out 2).trans rfl; have hcz34_3 : w28.cell? ⟨gb248, 3, none⟩ = some (.int .i64 x249003_1) := (blk_cell BK248.out 3).trans rfl; have hcz34_4 : w28.cell? ⟨gb248, 4, none⟩ = some (.int .i64 x249004_1) := (blk_cell BK248.out 4).trans rfl; have hcz34_5 : w28.cell? ⟨gb248, 5, none⟩ = some (.int .i64 x249005_1) := (blk_cell BK248.out 5).trans rfl; have hcz34_6 : w28.cell? ⟨gb248, 6, none⟩ = some (.int .i64 x249006_1) := (blk_cell BK248.out 6).trans rfl; have hcz34_7 : w28.cell? ⟨gb248, 7, none⟩ = some (.string x249007_1) := (blk_cell BK248.out 7).trans rfl; have hfz34_0 := blk_frozen BK248.out 0; have hfz34_1 := blk_frozen BK248.out 1; have hfz34_2 := blk_frozen BK248.out 2; have hfz34_3 := blk_frozen BK248.out 3; have hfz34_4 := blk_frozen BK248.out 4; have hfz34_5 := blk_frozen BK248.out 5; have hfz34_6 := blk_frozen BK248.out 6; have hfz34_7 := blk_frozen BK248.out 7))
      go_roundg k1
      case measure => have := HK1.out; omega
      case rel => exact ⟨(y262), (wrap64 (x7_1 + 1)), (t250), (t251), (t252), (t253), (t254), (t255), (t256), (t257), (by first | rfl | (simp; done) | (simp [*]; done)), H', ⟨by have := HK1.out; omega⟩, ⟨by (with_reducible repeat (first | apply Kd.R_alloc | apply Kd.R_drewN | apply Kd.R_drew)); exact Kd.R_mono (Kd.R_far (p := ⟨gb248, 7, none⟩) (Kd.R_far (p := ⟨gb248, 6, none⟩) (Kd.R_far (p := ⟨gb248, 5, none⟩) (Kd.R_far (p := ⟨gb248, 4, none⟩) (Kd.R_far (p := ⟨gb248, 3, none⟩) (Kd.R_far (p := ⟨gb248, 2, none⟩) (Kd.R_far (p := ⟨gb248, 1, none⟩) (Kd.R_far (p := ⟨gb248, 0, none⟩) (Kd.R_types HO264.out BK248.out (by decide)) (fun _ hk => hk.2) (.int .i64 t250)) (fun _ hk => hk.2) (.int .i64 t251)) (fun _ hk => hk.2) (.int .i64 t252)) (fun _ hk => hk.2) (.int .i64 t253)) (fun _ hk => hk.2) (.int .i64 t254)) (fun _ hk => hk.2) (.int .i64 t255)) (fun _ hk => hk.2) (.int .i64 t256)) (fun _ hk => hk.2) (.string t257)) (fun _ hk => trivial)⟩, ⟨by (with_reducible repeat (first | refine blk_drewN ?_ _ | refine blk_drew ?_ | refine blk_alloc ?_ _)); refine blk_far ?_ NB236_248.out _; (with_reducible repeat (first | refine blk_drewN ?_ _ | refine blk_drew ?_ | refine blk_alloc ?_ _)); refine blk_far ?_ NB236_248.out _; (with_reducible repeat (first | refine blk_drewN ?_ _ | refine blk_drew ?_ | refine blk_alloc ?_ _)); refine blk_far ?_ NB236_248.out _; (with_reducible repeat (first | refine blk_drewN ?_ _ | refine blk_drew ?_ | refine blk_alloc ?_ _)); refine blk_far ?_ NB236_248.out _; (with_reducible repeat (first | refine blk_drewN ?_ _ | refine blk_drew ?_ | refine blk_alloc ?_ _)); refine blk_far ?_ NB236_248.out _; (with_reducible repeat (first | refine blk_drewN ?_ _ | refine blk_drew ?_ | refine blk_alloc ?_ _)); refine blk_far ?_ NB236_248.out _; (with_reducible repeat (first | refine blk_drewN ?_ _ | refine blk_drew ?_ | refine blk_alloc ?_ _)); refine blk_far ?_ NB236_248.out _; (with_reducible repeat (first | refine blk_drewN ?_ _ | refine blk_drew ?_ | refine blk_alloc ?_ _)); refine blk_far ?_ NB236_248.out _; (with_reducible repeat (first | refine blk_drewN ?_ _ | refine blk_drew ?_ | refine blk_alloc ?_ _)); exact BK236.out⟩, ⟨by (with_reducible repeat (first | refine blk_drewN ?_ _ | refine blk_drew ?_ | refine blk_alloc ?_ _)); refine blk_put (cs := #[.int .i64 t250, .int .i64 t251, .int .i64 t252, .int .i64 t253, .int .i64 t254, .int .i64 t255, .int .i64 t256, .string x249007_1]) ?_ 7 _ rfl; (with_reducible repeat (first | refine blk_drewN ?_ _ | refine blk_drew ?_ | refine blk_alloc ?_ _)); refine blk_put (cs := #[.int .i64 t250, .int .i64 t251, .int .i64 t252, .int .i64 t253, .int .i64 t254, .int .i64 t255, .int .i64 x249006_1, .string x249007_1]) ?_ 6 _ rfl; (with_reducible repeat (first | refine blk_drewN ?_ _ | refine blk_drew ?_ | refine blk_alloc ?_ _)); refine blk_put (cs := #[.int .i64 t250, .int .i64 t251, .int .i64 t252, .int .i64 t253, .int .i64 t254, .int .i64 x249005_1, .int .i64 x249006_1, .string x249007_1]) ?_ 5 _ rfl; (with_reducible repeat (first | refine blk_drewN ?_ _ | refine blk_drew ?_ | refine blk_alloc ?_ _)); refine blk_put (cs := #[.int .i64 t250, .int .i64 t251, .int .i64 t252, .int .i64 t253, .int .i64 x249004_1, .int .i64 x249005_1, .int .i64 x249006_1, .string x249007_1]) ?_ 4 _ rfl; (with_reducible repeat (first | refine blk_drewN ?_ _ | refine blk_drew ?_ | refine blk_alloc ?_ _)); refine blk_put (cs := #[.int .i64 t250, .int .i64 t251, .int .i64 t252, .int .i64 x249003_1, .int .i64 x249004_1, .int .i64 x249005_1, .int .i64 x249006_1, .string x249007_1]) ?_ 3 _ rfl; (with_reducible repeat (first | refine blk_drewN ?_ _ | refine blk_drew ?_ | refine blk_alloc ?_ _)); refine blk_put (cs := #[.int .i64 t250, .int .i64 t251, .int .i64 x249002_1, .int .i64 x249003_1, .int .i64 x249004_1, .int .i64 x249005_1, .int .i64 x249006_1, .string x249007_1]) ?_ 2 _ rfl; (with_reducible repeat (first | refine blk_drewN ?_ _ | refine blk_drew ?_ | refine blk_alloc ?_ _)); refine blk_put (cs := #[.int .i64 t250, .int .i64 x249001_1, .int .i64 x249002_1, .int .i64 x249003_1, .int .i64 x249004_1, .int .i64 x249005_1, .int .i64 x249006_1, .string x249007_1]) ?_ 1 _ rfl; (with_reducible repeat (first | refine blk_drewN ?_ _ | refine blk_drew ?_ | refine blk_alloc ?_ _)); refine blk_put (cs := #[.int .i64 x249000_1, .int .i64 x249001_1, .int .i64 x249002_1, .int .i64 x249003_1, .int .i64 x249004_1, .int .i64 x249005_1, .int .i64 x249006_1, .string x249007_1]) ?_ 0 _ rfl; (with_reducible repeat (first | refine blk_drewN ?_ _ | refine blk_drew ?_ | refine blk_alloc ?_ _)); exact BK248.out⟩, ⟨by repeat (first | (with_reducible first | exact HB.out | apply below_alloc | apply pw_below_drewN | apply below_drew1 | refine below_set ?_ GE236.out | refine below_set ?_ GE248.out | refine below_set ?_ GE261.out) | exact HB.out)⟩⟩
     ·rw [if_neg c15] at H
      exact absurd H (by simp)
    ·rw [if_neg c13] at H
     exact absurd H (by simp)
   ·rw [if_neg c12] at H
    have c12b0 : decide (x7_1 < (l1.length : Int)) = false := decide_eq_false c12
    clear c12
    obtain rfl := Option.some.inj H
    go_wp2
    go_ret
    exact ⟨_, by first | rfl | (simp [errW_none, errW_some] <;> rfl) | (simp [*, errW_none, errW_some] <;> rfl), by (with_reducible repeat (first | apply Kd.R_alloc | apply Kd.R_drewN | apply Kd.R_drew)); exact HO_5.out, by repeat (first | (with_reducible first | exact HB.out | apply below_alloc | apply pw_below_drewN | apply below_drew1 | refine below_set ?_ GE236.out | refine below_set ?_ GE248.out) | exact HB.out)⟩

end Go.Proofs.Ytgcifmaefoeobaa.PScrambleDecodes
