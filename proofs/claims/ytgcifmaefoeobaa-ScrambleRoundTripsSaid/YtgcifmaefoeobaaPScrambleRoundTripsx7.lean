-- Written by a program of this session (wip/tools/pr.py), which calls the kit's print with changes of its own.
import Derived.Test.YtgcifmaefoeobaaPScrambleRoundTripsx0
import Derived.Test.YtgcifmaefoeobaaPScrambleRoundTripsx1
import Derived.Test.YtgcifmaefoeobaaPScrambleRoundTripsx2
import Derived.Test.YtgcifmaefoeobaaPScrambleRoundTripsx6
namespace Go.Proofs.Ytgcifmaefoeobaa.PScrambleRoundTrips
open Go.RowKit Go.Proofs.YtgcifmaefoeobaaW.PrintWords Go.Proofs.YtgcifmaefoeobaaW.PrintLast Go.Proofs.YtgcifmaefoeobaaW.PrintMore
attribute [local go_sem] max2_int min2_int max_two min_two max_three min_three max_four min_four   -- for this text's walks alone
set_option linter.unusedVariables false
set_option linter.unusedSimpArgs false

attribute [local go_sem high] eqA27 eqA46
/-! ### scramble_Decode: function 16 -/
def scramble_Decode.l0 : Nat → List (S27) → List (S27) → Int → Int → Int → Int → Int → Int → Int → Int → Int → Int → Int → ByteArray → Option ((List (S27)))
 | 0, _, _, _, _, _, _, _, _, _, _, _, _, _, _ => none
 | k + 1, x6, x13, x14, x15, x145000, x145001, x154000, x154001, x154002, x154003, x154004, x154005, x154006, x154007 => if x15 < x14 then (if 0 ≤ x15 then (if x15 < (x13.length : Int) then ((scramble_Step.f k x145000 x145001 x154000 x154001 x154002 x154003 x154004 x154005 x154006 x154007 ((rd_T27 x13 x15).f0) ((rd_T27 x13 x15).f1) ((rd_T27 x13 x15).f2) ((rd_T27 x13 x15).f3) ((rd_T27 x13 x15).f4) ((rd_T27 x13 x15).f5) ((rd_T27 x13 x15).f6)).bind fun bt156 => (if x6.length + bt156.2.2.2.2.2.2.2.2.length < 2199023255552 then (scramble_Decode.l0 k (x6 ++ bt156.2.2.2.2.2.2.2.2) x13 x14 (wrap64 (x15 + 1)) x145000 x145001 bt156.1 bt156.2.1 bt156.2.2.1 bt156.2.2.2.1 bt156.2.2.2.2.1 bt156.2.2.2.2.2.1 bt156.2.2.2.2.2.2.1 bt156.2.2.2.2.2.2.2.1) else (none))) else (none)) else (none)) else ((scramble_End.f x145000 x145001 x154000 x154001 x154002 x154003 x154004 x154005 x154006 x154007).bind fun t171 => (if x6.length + t171.length < 2199023255552 then (some (x6 ++ t171)) else (none)))
def scramble_Decode.f (k : Nat) (a0_0 : Int) (a0_1 : Int) (l1 : List (S27)) : Option ((List (S27))) := (scramble_Start.f a0_0 a0_1).bind fun bt145 => (scramble_Decode.l0 k ([] : List (S27)) l1 (l1.length : Int) 0 a0_0 a0_1 bt145.1 bt145.2.1 bt145.2.2.1 bt145.2.2.2.1 bt145.2.2.2.2.1 bt145.2.2.2.2.2.1 bt145.2.2.2.2.2.2.1 bt145.2.2.2.2.2.2.2)
theorem scramble_Decode.mono_l : ∀ k, (∀ y0 y1 y2 y3 y4 y5 y6 y7 y8 y9 y10 y11 y12 y13, LeO (scramble_Decode.l0 k y0 y1 y2 y3 y4 y5 y6 y7 y8 y9 y10 y11 y12 y13) (scramble_Decode.l0 (k + 1) y0 y1 y2 y3 y4 y5 y6 y7 y8 y9 y10 y11 y12 y13))
 | 0 => fun _ _ _ _ _ _ _ _ _ _ _ _ _ _ r h => by simp [scramble_Decode.l0] at h
 | k + 1 => by
  have ih0 := scramble_Decode.mono_l k
  ·intro y0 y1 y2 y3 y4 y5 y6 y7 y8 y9 y10 y11 y12 y13
   unfold scramble_Decode.l0
   repeat' first
   | (with_reducible exact ih0 _ _ _ _ _ _ _ _ _ _ _ _ _ _)
   | (with_reducible exact scramble_Step.mono _ _ _ _ _ _ _ _ _ _ _ _ _ _ _ _ _ _)
   | (with_reducible exact LeO.refl _)
   | (with_reducible exact LeO.none _)
   | (with_reducible refine LeO.ite ?_ ?_)
   | (with_reducible refine LeO.bind ?_ (fun _ => ?_))
   | exact ih0 _ _ _ _ _ _ _ _ _ _ _ _ _ _
   | exact scramble_Step.mono _ _ _ _ _ _ _ _ _ _ _ _ _ _ _ _ _ _
   | exact LeO.none _
   | refine LeO.ite ?_ ?_
   | refine LeO.bind ?_ (fun _ => ?_)
theorem scramble_Decode.mono : ∀ a0 a1 a2 k, LeO (scramble_Decode.f k a0 a1 a2) (scramble_Decode.f (k + 1) a0 a1 a2) := by
 intro a0 a1 a2 k
 have ih0 := scramble_Decode.mono_l k
 unfold scramble_Decode.f
 repeat' first
   | (with_reducible exact ih0 _ _ _ _ _ _ _ _ _ _ _ _ _ _)
   | (with_reducible exact scramble_Step.mono _ _ _ _ _ _ _ _ _ _ _ _ _ _ _ _ _ _)
   | (with_reducible exact LeO.refl _)
   | (with_reducible exact LeO.none _)
   | (with_reducible refine LeO.ite ?_ ?_)
   | (with_reducible refine LeO.bind ?_ (fun _ => ?_))
   | exact ih0 _ _ _ _ _ _ _ _ _ _ _ _ _ _
   | exact scramble_Step.mono _ _ _ _ _ _ _ _ _ _ _ _ _ _ _ _ _ _
   | exact LeO.none _
   | refine LeO.ite ?_ ?_
   | refine LeO.bind ?_ (fun _ => ?_)
set_option maxHeartbeats 8000000 in
set_option maxRecDepth 100000 in
theorem scramble_Decode.calls (k : Nat) (a0_0 : Int) (a0_1 : Int) (A1 : Option Addr) (c1 : Nat) (l1 : List (S27)) (r : List (S27)) (w : World) (hr1 : Kd.C k27 w A1 l1.length l1) (hc1 : l1.length ≤ c1) (h : scramble_Decode.f k a0_0 a0_1 l1 = some r) :
  Calls Try.prog 16 #[.agg #[.int .i64 a0_0, .int .i64 a0_1], .slice A1 l1.length c1] w fun e w' => ∃ v0_ : Value, e = .returned (v0_) ∧ Kd.R k27 27 w' w.heap.size (fun _ => True) v0_ r ∧ Below w.heap.size w w' := by
 have hu23 := Try.underlying23
 have hu25 := Try.underlying25
 have hu27 := Try.underlying27
 have HR1 := Aside0.mk hr1
 have HC1 := Aside0.mk hc1
 clear hr1 hc1
 have HB := Aside0.mk (Below.refl w.heap.size w)
 have H : ((scramble_Start.f a0_0 a0_1).bind fun bt145 => (scramble_Decode.l0 k ([] : List (S27)) l1 (l1.length : Int) 0 a0_0 a0_1 bt145.1 bt145.2.1 bt145.2.2.1 bt145.2.2.2.1 bt145.2.2.2.2.1 bt145.2.2.2.2.2.1 bt145.2.2.2.2.2.2.1 bt145.2.2.2.2.2.2.2)) = some r := h
 clear h
 replace H := Option.bind_eq_some_iff.mp H
 obtain ⟨⟨t145, t146, t147, t148, t149, t150, t151, t152⟩, A30, H⟩ := H
 replace H : (scramble_Decode.l0 k ([] : List (S27)) l1 (l1.length : Int) 0 a0_0 a0_1 t145 t146 t147 t148 t149 t150 t151 t152) = some r := H
 have A3 := Aside0.mk A30
 clear A30
 have H' := Aside0.mk H
 clear H
 go_enter Try.func16, Try.ntmps16
 go_wp2_with (first | ((with_reducible refine gate_dst (N := 2) rfl ?_); refine box_event ?hg (N := 2) ?hd (cs := #[.int .i64 a0_0, .int .i64 a0_1]) (t := 23) ?hr ?_; (case hd => rfl); (case hg => rfl); (case hr => first | (go_simp; done) | (go_simp; rfl)); intro gb144 hg w4 hbox hb; have n0_ := Aside0.mk (below_step (hbw HB.out) hb); have n1_ := Aside0.mk (hbox); have n2_ := Aside0.mk ((by rw [hg]; exact (below_size (hbw HB.out)) : w.heap.size ≤ gb144)); have n3_ := Aside0.mk ((by rw [hg]; exact (below_size (hbw HB.out)) : w.heap.size ≤ gb144)); clear HB; have HB := n0_; have BK144 := n1_; have GW144 := n2_; have GE144 := n3_; clear n0_ n1_ n2_ n3_; clear hb hbox hg; have hcz5_0 : w4.cell? ⟨gb144, 0, none⟩ = some (.int .i64 a0_0) := (blk_cell BK144.out 0).trans rfl; have hcz5_1 : w4.cell? ⟨gb144, 1, none⟩ = some (.int .i64 a0_1) := (blk_cell BK144.out 1).trans rfl; have hfz5_0 := blk_frozen BK144.out 0; have hfz5_1 := blk_frozen BK144.out 1) | ((with_reducible refine gate_callee (f := 14) rfl ?_); refine goesL_ (some 12) rfl rfl Try.func14 (by kernel_rfl) rfl #[.agg #[.int .i64 a0_0, .int .i64 a0_1]] rfl (by (try simp only [List.map_toArray, List.map_cons, List.map_nil]); first | done | rfl | (simp only [List.length_drop, List.length_take]; rfl)) ?_; (with_reducible refine (scramble_Start.calls a0_0 a0_1 t145 t146 t147 t148 t149 t150 t151 t152 _ A3.out).mono ?_); rintro e w6 ⟨rfl, hb⟩; refine ⟨_, rfl, ?_⟩; have n0_ := Aside0.mk (blkb BK144.out hb); have n1_ := Aside0.mk (below_step (hbw HB.out) hb); clear BK144; clear HB; have BK144 := n0_; have HB := n1_; clear n0_ n1_; (try clear hb); (try clear hb2); (try clear hk); (try clear hi)) | ((with_reducible refine gate_dst (N := 5) rfl ?_); refine box_event ?hg (N := 5) ?hd (cs := #[.int .i64 0, .int .i64 0, .int .i64 0, .int .i64 0, .int .i64 0, .int .i64 0, .int .i64 0, .string (⟨#[]⟩ : ByteArray)]) (t := 25) ?hr ?_; (case hd => rfl); (case hg => rfl); (case hr => first | (go_simp; done) | (go_simp; rfl)); intro gb153 hg w7 hbox hb; have n0_ := Aside0.mk (blkb BK144.out hb); have n1_ := Aside0.mk (below_step (hbw HB.out) hb); have n2_ := Aside0.mk (hbox); have n3_ := Aside0.mk ((by rw [hg]; exact (below_size (hbw HB.out)) : w.heap.size ≤ gb153)); have n4_ := Aside0.mk ((by rw [hg]; exact (below_size (hbw HB.out)) : w.heap.size ≤ gb153)); have n5_ := Aside0.mk ((by rw [hg]; exact Nat.ne_of_lt (blkl BK144.out) : gb144 ≠ gb153)); have n6_ := Aside0.mk ((by rw [hg]; exact Nat.ne_of_gt (blkl BK144.out) : gb153 ≠ gb144)); clear BK144; clear HB; have BK144 := n0_; have HB := n1_; have BK153 := n2_; have GW153 := n3_; have GE153 := n4_; have NB144_153 := n5_; have NB153_144 := n6_; clear n0_ n1_ n2_ n3_ n4_ n5_ n6_; clear hb hbox hg; have hnb8 := NB153_144.out; have hnc8 := NB144_153.out; have hcz9_0 : w7.cell? ⟨gb153, 0, none⟩ = some (.int .i64 0) := (blk_cell BK153.out 0).trans rfl; have hcz9_1 : w7.cell? ⟨gb153, 1, none⟩ = some (.int .i64 0) := (blk_cell BK153.out 1).trans rfl; have hcz9_2 : w7.cell? ⟨gb153, 2, none⟩ = some (.int .i64 0) := (blk_cell BK153.out 2).trans rfl; have hcz9_3 : w7.cell? ⟨gb153, 3, none⟩ = some (.int .i64 0) := (blk_cell BK153.out 3).trans rfl; have hcz9_4 : w7.cell? ⟨gb153, 4, none⟩ = some (.int .i64 0) := (blk_cell BK153.out 4).trans rfl; have hcz9_5 : w7.cell? ⟨gb153, 5, none⟩ = some (.int .i64 0) := (blk_cell BK153.out 5).trans rfl; have hcz9_6 : w7.cell? ⟨gb153, 6, none⟩ = some (.int .i64 0) := (blk_cell BK153.out 6).trans rfl; have hcz9_7 : w7.cell? ⟨gb153, 7, none⟩ = some (.string (⟨#[]⟩ : ByteArray)) := (blk_cell BK153.out 7).trans rfl; have hfz9_0 := blk_frozen BK153.out 0; have hfz9_1 := blk_frozen BK153.out 1; have hfz9_2 := blk_frozen BK153.out 2; have hfz9_3 := blk_frozen BK153.out 3; have hfz9_4 := blk_frozen BK153.out 4; have hfz9_5 := blk_frozen BK153.out 5; have hfz9_6 := blk_frozen BK153.out 6; have hfz9_7 := blk_frozen BK153.out 7))
 go_loopg [6, 15] k (fun kq v6 v15 w' => ∃ (x6_1 : List (S27)) (x15_1 : Int) (x154000_1 : Int) (x154001_1 : Int) (x154002_1 : Int) (x154003_1 : Int) (x154004_1 : Int) (x154005_1 : Int) (x154006_1 : Int) (x154007_1 : ByteArray), v15 = .int .i64 x15_1 ∧ Aside0 (scramble_Decode.l0 kq x6_1 l1 (l1.length : Int) x15_1 a0_0 a0_1 x154000_1 x154001_1 x154002_1 x154003_1 x154004_1 x154005_1 x154006_1 x154007_1 = some r) ∧ Aside0 (kq ≤ k) ∧ Aside0 (Kd.R k27 27 w' w.heap.size (fun _ => True) v6 x6_1) ∧ Aside0 (w'.heap[gb144]? = some (.cells #[.int .i64 a0_0, .int .i64 a0_1] 23 (0, 0))) ∧ Aside0 (w'.heap[gb153]? = some (.cells #[.int .i64 x154000_1, .int .i64 x154001_1, .int .i64 x154002_1, .int .i64 x154003_1, .int .i64 x154004_1, .int .i64 x154005_1, .int .i64 x154006_1, .string x154007_1] 25 (0, 0))) ∧ Aside0 (Below w.heap.size w w'))
 case atStart => exact ⟨(([] : List (S27))), (0), (t145), (t146), (t147), (t148), (t149), (t150), (t151), (t152), (by first | rfl | (simp; done) | (simp [*]; done)), H', ⟨Nat.le_refl _⟩, ⟨by first | exact Kd.R_nil _ _ _ _ _ | exact Kd.N_nil _ _ _ _ _ | exact Kd.V_nil _ _ _ _ _ | exact Kd.Q_nil _ _ _ _ _ | exact Kd.S_nil _ _ _ _ _⟩, ⟨by (with_reducible repeat (first | refine blk_drewN ?_ _ | refine blk_drew ?_ | refine blk_alloc ?_ _)); refine blk_far ?_ NB144_153.out _; (with_reducible repeat (first | refine blk_drewN ?_ _ | refine blk_drew ?_ | refine blk_alloc ?_ _)); refine blk_far ?_ NB144_153.out _; (with_reducible repeat (first | refine blk_drewN ?_ _ | refine blk_drew ?_ | refine blk_alloc ?_ _)); refine blk_far ?_ NB144_153.out _; (with_reducible repeat (first | refine blk_drewN ?_ _ | refine blk_drew ?_ | refine blk_alloc ?_ _)); refine blk_far ?_ NB144_153.out _; (with_reducible repeat (first | refine blk_drewN ?_ _ | refine blk_drew ?_ | refine blk_alloc ?_ _)); refine blk_far ?_ NB144_153.out _; (with_reducible repeat (first | refine blk_drewN ?_ _ | refine blk_drew ?_ | refine blk_alloc ?_ _)); refine blk_far ?_ NB144_153.out _; (with_reducible repeat (first | refine blk_drewN ?_ _ | refine blk_drew ?_ | refine blk_alloc ?_ _)); refine blk_far ?_ NB144_153.out _; (with_reducible repeat (first | refine blk_drewN ?_ _ | refine blk_drew ?_ | refine blk_alloc ?_ _)); refine blk_far ?_ NB144_153.out _; (with_reducible repeat (first | refine blk_drewN ?_ _ | refine blk_drew ?_ | refine blk_alloc ?_ _)); exact BK144.out⟩, ⟨by (with_reducible repeat (first | refine blk_drewN ?_ _ | refine blk_drew ?_ | refine blk_alloc ?_ _)); refine blk_put (cs := #[.int .i64 t145, .int .i64 t146, .int .i64 t147, .int .i64 t148, .int .i64 t149, .int .i64 t150, .int .i64 t151, .string (⟨#[]⟩ : ByteArray)]) ?_ 7 _ rfl; (with_reducible repeat (first | refine blk_drewN ?_ _ | refine blk_drew ?_ | refine blk_alloc ?_ _)); refine blk_put (cs := #[.int .i64 t145, .int .i64 t146, .int .i64 t147, .int .i64 t148, .int .i64 t149, .int .i64 t150, .int .i64 0, .string (⟨#[]⟩ : ByteArray)]) ?_ 6 _ rfl; (with_reducible repeat (first | refine blk_drewN ?_ _ | refine blk_drew ?_ | refine blk_alloc ?_ _)); refine blk_put (cs := #[.int .i64 t145, .int .i64 t146, .int .i64 t147, .int .i64 t148, .int .i64 t149, .int .i64 0, .int .i64 0, .string (⟨#[]⟩ : ByteArray)]) ?_ 5 _ rfl; (with_reducible repeat (first | refine blk_drewN ?_ _ | refine blk_drew ?_ | refine blk_alloc ?_ _)); refine blk_put (cs := #[.int .i64 t145, .int .i64 t146, .int .i64 t147, .int .i64 t148, .int .i64 0, .int .i64 0, .int .i64 0, .string (⟨#[]⟩ : ByteArray)]) ?_ 4 _ rfl; (with_reducible repeat (first | refine blk_drewN ?_ _ | refine blk_drew ?_ | refine blk_alloc ?_ _)); refine blk_put (cs := #[.int .i64 t145, .int .i64 t146, .int .i64 t147, .int .i64 0, .int .i64 0, .int .i64 0, .int .i64 0, .string (⟨#[]⟩ : ByteArray)]) ?_ 3 _ rfl; (with_reducible repeat (first | refine blk_drewN ?_ _ | refine blk_drew ?_ | refine blk_alloc ?_ _)); refine blk_put (cs := #[.int .i64 t145, .int .i64 t146, .int .i64 0, .int .i64 0, .int .i64 0, .int .i64 0, .int .i64 0, .string (⟨#[]⟩ : ByteArray)]) ?_ 2 _ rfl; (with_reducible repeat (first | refine blk_drewN ?_ _ | refine blk_drew ?_ | refine blk_alloc ?_ _)); refine blk_put (cs := #[.int .i64 t145, .int .i64 0, .int .i64 0, .int .i64 0, .int .i64 0, .int .i64 0, .int .i64 0, .string (⟨#[]⟩ : ByteArray)]) ?_ 1 _ rfl; (with_reducible repeat (first | refine blk_drewN ?_ _ | refine blk_drew ?_ | refine blk_alloc ?_ _)); refine blk_put (cs := #[.int .i64 0, .int .i64 0, .int .i64 0, .int .i64 0, .int .i64 0, .int .i64 0, .int .i64 0, .string (⟨#[]⟩ : ByteArray)]) ?_ 0 _ rfl; (with_reducible repeat (first | refine blk_drewN ?_ _ | refine blk_drew ?_ | refine blk_alloc ?_ _)); exact BK153.out⟩, ⟨by repeat (first | (with_reducible first | exact HB.out | apply below_alloc | apply pw_below_drewN | apply below_drew1 | refine below_set ?_ GE144.out | refine below_set ?_ GE153.out) | exact HB.out)⟩⟩
 case round =>
  clear H'
  try clear c1
  try clear p2
  try clear c8
  try clear hcz5_0
  try clear hcz5_1
  try clear hcz9_0
  try clear hcz9_1
  try clear hcz9_2
  try clear hcz9_3
  try clear hcz9_4
  try clear hcz9_5
  try clear hcz9_6
  try clear hcz9_7
  try clear hfz5_0
  try clear hfz5_1
  try clear hfz9_0
  try clear hfz9_1
  try clear hfz9_2
  try clear hfz9_3
  try clear hfz9_4
  try clear hfz9_5
  try clear hfz9_6
  try clear hfz9_7
  obtain ⟨x6_1, x15_1, x154000_1, x154001_1, x154002_1, x154003_1, x154004_1, x154005_1, x154006_1, x154007_1, rfl, HA, HK1, HO_6, BK144, BK153, HB⟩ := hrel
  cases gk with
  | zero => exact absurd HA.out (by simp [scramble_Decode.l0])
  | succ k1 =>
   have H := HA.out
   clear HA
   simp only [scramble_Decode.l0] at H
   by_cases c10 : x15_1 < (l1.length : Int)
   ·rw [if_pos c10] at H
    have c10b0 : decide (x15_1 < (l1.length : Int)) = true := decide_eq_true c10
    clear c10
    by_cases c11 : 0 ≤ x15_1
    ·rw [if_pos c11] at H
     have c11b0 : decide (0 ≤ x15_1) = true := decide_eq_true c11
     clear c11
     by_cases c12 : x15_1 < (l1.length : Int)
     ·rw [if_pos c12] at H
      have c12b0 : decide (x15_1 < (l1.length : Int)) = true := decide_eq_true c12
      clear c12
      replace H := Option.bind_eq_some_iff.mp H
      obtain ⟨⟨t156, t157, t158, t159, t160, t161, t162, t163, t164⟩, A130, H⟩ := H
      replace H : (if x6_1.length + t164.length < 2199023255552 then (scramble_Decode.l0 k1 (x6_1 ++ t164) l1 (l1.length : Int) (wrap64 (x15_1 + 1)) a0_0 a0_1 t156 t157 t158 t159 t160 t161 t162 t163) else (none)) = some r := H
      have A13 := Aside0.mk A130
      clear A130
      by_cases c14 : x6_1.length + t164.length < 2199023255552
      ·rw [if_pos c14] at H
       have LMc14 := Aside0.mk c14
       clear c14
       obtain ⟨y168, hy168⟩ : ∃ y_ : List (S27), y_ = (x6_1 ++ t164) := ⟨_, rfl⟩
       replace H : (scramble_Decode.l0 k1 y168 l1 (l1.length : Int) (wrap64 (x15_1 + 1)) a0_0 a0_1 t156 t157 t158 t159 t160 t161 t162 t163) = some r := by first | (rw [hy168]; with_reducible exact H) | (have H2_ := (Option.bind_some _ _).symm.trans H; rw [hy168]; with_reducible exact H2_) | (have H2_ := (Option.bind_some _ _).symm.trans H; with_reducible exact H2_) | with_reducible exact H | (rw [hy168]; exact H) | exact H
       have Ny168 := Aside0.mk hy168
       clear hy168
       have H' := Aside0.mk H
       clear H
       have p154 : 0 ≤ (x15_1 : Int) := of_decide_eq_true (by first | (with_reducible assumption) | assumption)
       have q154 : x15_1 < (l1.length : Int) := of_decide_eq_true (by first | (with_reducible assumption) | assumption)
       obtain ⟨ad154, e154, hx154_0, hx154_1, hx154_2, hx154_3, hx154_4, hx154_5, hx154_6⟩ := at_T27 HR1.out x15_1 p154 q154
       cases e154
       replace hx154_0 := (HB.out.cell (World.block_lt_of_cell? w _ hx154_0)).trans hx154_0
       replace hx154_1 := (HB.out.cell (World.block_lt_of_cell? w _ hx154_1)).trans hx154_1
       replace hx154_2 := (HB.out.cell (World.block_lt_of_cell? w _ hx154_2)).trans hx154_2
       replace hx154_3 := (HB.out.cell (World.block_lt_of_cell? w _ hx154_3)).trans hx154_3
       replace hx154_4 := (HB.out.cell (World.block_lt_of_cell? w _ hx154_4)).trans hx154_4
       replace hx154_5 := (HB.out.cell (World.block_lt_of_cell? w _ hx154_5)).trans hx154_5
       replace hx154_6 := (HB.out.cell (World.block_lt_of_cell? w _ hx154_6)).trans hx154_6
       replace p154 := eq_true p154
       replace q154 := eq_true q154
       try go_wp2_with (first | ((with_reducible refine gate_dst (N := 8) rfl ?_); refine box_event ?hg (N := 8) ?hd (cs := #[.int .i64 0, .int .i64 0, .int .i64 0, .int .i64 0, .int .i64 0, .string (⟨#[]⟩ : ByteArray), .int .i64 0]) (t := 27) ?hr ?_; (case hd => rfl); (case hg => rfl); (case hr => first | (go_simp; done) | (go_simp; rfl)); intro gb155 hg w15 hbox hb; have n0_ := Aside0.mk (Kd.R_below (Kd.R_elderB (rkw HO_6.out) gb155 (Nat.le_of_eq hg.symm)) hb); have n1_ := Aside0.mk (blkb BK144.out hb); have n2_ := Aside0.mk (blkb BK153.out hb); have n3_ := Aside0.mk (below_step (hbw HB.out) hb); have n4_ := Aside0.mk (hbox); have n5_ := Aside0.mk ((by rw [hg]; exact (below_size (hbw HB.out)) : w.heap.size ≤ gb155)); have n6_ := Aside0.mk ((by rw [hg]; exact (below_size (hbw HB.out)) : w.heap.size ≤ gb155)); have n7_ := Aside0.mk ((by rw [hg]; exact Nat.ne_of_lt (blkl BK144.out) : gb144 ≠ gb155)); have n8_ := Aside0.mk ((by rw [hg]; exact Nat.ne_of_gt (blkl BK144.out) : gb155 ≠ gb144)); have n9_ := Aside0.mk ((by rw [hg]; exact Nat.ne_of_lt (blkl BK153.out) : gb153 ≠ gb155)); have n10_ := Aside0.mk ((by rw [hg]; exact Nat.ne_of_gt (blkl BK153.out) : gb155 ≠ gb153)); clear HO_6; clear BK144; clear BK153; clear HB; have HO_6 := n0_; have BK144 := n1_; have BK153 := n2_; have HB := n3_; have BK155 := n4_; have GW155 := n5_; have GE155 := n6_; have NB144_155 := n7_; have NB155_144 := n8_; have NB153_155 := n9_; have NB155_153 := n10_; clear n0_ n1_ n2_ n3_ n4_ n5_ n6_ n7_ n8_ n9_ n10_; clear hb hbox hg; have hnb16 := NB155_144.out; have hnc16 := NB144_155.out; have hnb17 := NB155_153.out; have hnc17 := NB153_155.out; have hcz18_0 : w15.cell? ⟨gb155, 0, none⟩ = some (.int .i64 0) := (blk_cell BK155.out 0).trans rfl; have hcz18_1 : w15.cell? ⟨gb155, 1, none⟩ = some (.int .i64 0) := (blk_cell BK155.out 1).trans rfl; have hcz18_2 : w15.cell? ⟨gb155, 2, none⟩ = some (.int .i64 0) := (blk_cell BK155.out 2).trans rfl; have hcz18_3 : w15.cell? ⟨gb155, 3, none⟩ = some (.int .i64 0) := (blk_cell BK155.out 3).trans rfl; have hcz18_4 : w15.cell? ⟨gb155, 4, none⟩ = some (.int .i64 0) := (blk_cell BK155.out 4).trans rfl; have hcz18_5 : w15.cell? ⟨gb155, 5, none⟩ = some (.string (⟨#[]⟩ : ByteArray)) := (blk_cell BK155.out 5).trans rfl; have hcz18_6 : w15.cell? ⟨gb155, 6, none⟩ = some (.int .i64 0) := (blk_cell BK155.out 6).trans rfl; have hfz18_0 := blk_frozen BK155.out 0; have hfz18_1 := blk_frozen BK155.out 1; have hfz18_2 := blk_frozen BK155.out 2; have hfz18_3 := blk_frozen BK155.out 3; have hfz18_4 := blk_frozen BK155.out 4; have hfz18_5 := blk_frozen BK155.out 5; have hfz18_6 := blk_frozen BK155.out 6; have hnb19 := NB144_153.out; have hnc19 := NB153_144.out; have hcz20_0 : w15.cell? ⟨gb144, 0, none⟩ = some (.int .i64 a0_0) := (blk_cell BK144.out 0).trans rfl; have hcz20_1 : w15.cell? ⟨gb144, 1, none⟩ = some (.int .i64 a0_1) := (blk_cell BK144.out 1).trans rfl; have hfz20_0 := blk_frozen BK144.out 0; have hfz20_1 := blk_frozen BK144.out 1; have hcz21_0 : w15.cell? ⟨gb153, 0, none⟩ = some (.int .i64 x154000_1) := (blk_cell BK153.out 0).trans rfl; have hcz21_1 : w15.cell? ⟨gb153, 1, none⟩ = some (.int .i64 x154001_1) := (blk_cell BK153.out 1).trans rfl; have hcz21_2 : w15.cell? ⟨gb153, 2, none⟩ = some (.int .i64 x154002_1) := (blk_cell BK153.out 2).trans rfl; have hcz21_3 : w15.cell? ⟨gb153, 3, none⟩ = some (.int .i64 x154003_1) := (blk_cell BK153.out 3).trans rfl; have hcz21_4 : w15.cell? ⟨gb153, 4, none⟩ = some (.int .i64 x154004_1) := (blk_cell BK153.out 4).trans rfl; have hcz21_5 : w15.cell? ⟨gb153, 5, none⟩ = some (.int .i64 x154005_1) := (blk_cell BK153.out 5).trans rfl; have hcz21_6 : w15.cell? ⟨gb153, 6, none⟩ = some (.int .i64 x154006_1) := (blk_cell BK153.out 6).trans rfl; have hcz21_7 : w15.cell? ⟨gb153, 7, none⟩ = some (.string x154007_1) := (blk_cell BK153.out 7).trans rfl; have hfz21_0 := blk_frozen BK153.out 0; have hfz21_1 := blk_frozen BK153.out 1; have hfz21_2 := blk_frozen BK153.out 2; have hfz21_3 := blk_frozen BK153.out 3; have hfz21_4 := blk_frozen BK153.out 4; have hfz21_5 := blk_frozen BK153.out 5; have hfz21_6 := blk_frozen BK153.out 6; have hfz21_7 := blk_frozen BK153.out 7) | ((with_reducible refine gate_callee (f := 12) rfl ?_); refine goesL_ (some 23) rfl rfl Try.func12 (by kernel_rfl) rfl #[.agg #[.int .i64 a0_0, .int .i64 a0_1], .agg #[.int .i64 x154000_1, .int .i64 x154001_1, .int .i64 x154002_1, .int .i64 x154003_1, .int .i64 x154004_1, .int .i64 x154005_1, .int .i64 x154006_1, .string x154007_1], .agg #[.int .i64 ((rd_T27 l1 x15_1).f0), .int .i64 ((rd_T27 l1 x15_1).f1), .int .i64 ((rd_T27 l1 x15_1).f2), .int .i64 ((rd_T27 l1 x15_1).f3), .int .i64 ((rd_T27 l1 x15_1).f4), .string ((rd_T27 l1 x15_1).f5), .int .i64 ((rd_T27 l1 x15_1).f6)]] rfl (by (try simp only [List.map_toArray, List.map_cons, List.map_nil]); first | done | rfl | (simp only [List.length_drop, List.length_take]; rfl)) ?_; (with_reducible refine (scramble_Step.calls k1 a0_0 a0_1 x154000_1 x154001_1 x154002_1 x154003_1 x154004_1 x154005_1 x154006_1 x154007_1 ((rd_T27 l1 x15_1).f0) ((rd_T27 l1 x15_1).f1) ((rd_T27 l1 x15_1).f2) ((rd_T27 l1 x15_1).f3) ((rd_T27 l1 x15_1).f4) ((rd_T27 l1 x15_1).f5) ((rd_T27 l1 x15_1).f6) t156 t157 t158 t159 t160 t161 t162 t163 t164 _ A13.out).mono ?_); rintro e w22 ⟨v165, rfl, ho0, hb⟩; refine ⟨_, rfl, ?_⟩; have n0_ := Aside0.mk (Kd.R_elder' (by (with_reducible repeat (first | apply Kd.R_alloc | apply Kd.R_drewN | apply Kd.R_drew)); exact (Kd.R_mono (Kd.R_far (p := ⟨gb155, 6, none⟩) (Kd.R_far (p := ⟨gb155, 5, none⟩) (Kd.R_far (p := ⟨gb155, 4, none⟩) (Kd.R_far (p := ⟨gb155, 3, none⟩) (Kd.R_far (p := ⟨gb155, 2, none⟩) (Kd.R_far (p := ⟨gb155, 1, none⟩) (Kd.R_far (p := ⟨gb155, 0, none⟩) (Kd.R_mono HO_6.out (fun k_ hk => (⟨hk, hk.2⟩ : _ ∧ k_ ≠ gb155))) (fun _ hk => hk.2) (.int .i64 ((rd_T27 l1 x15_1).f0))) (fun _ hk => hk.2) (.int .i64 ((rd_T27 l1 x15_1).f1))) (fun _ hk => hk.2) (.int .i64 ((rd_T27 l1 x15_1).f2))) (fun _ hk => hk.2) (.int .i64 ((rd_T27 l1 x15_1).f3))) (fun _ hk => hk.2) (.int .i64 ((rd_T27 l1 x15_1).f4))) (fun _ hk => hk.2) (.string ((rd_T27 l1 x15_1).f5))) (fun _ hk => hk.2) (.int .i64 ((rd_T27 l1 x15_1).f6))) (fun _ h_ => h_.1))) (Kd.R_base ho0) hb); have n1_ := Aside0.mk (Kd.R_lower (Kd.R_newB (Kd.R_new' ho0 (Kd.R_lt (by (with_reducible repeat (first | apply Kd.R_alloc | apply Kd.R_drewN | apply Kd.R_drew)); exact (Kd.R_mono (Kd.R_far (p := ⟨gb155, 6, none⟩) (Kd.R_far (p := ⟨gb155, 5, none⟩) (Kd.R_far (p := ⟨gb155, 4, none⟩) (Kd.R_far (p := ⟨gb155, 3, none⟩) (Kd.R_far (p := ⟨gb155, 2, none⟩) (Kd.R_far (p := ⟨gb155, 1, none⟩) (Kd.R_far (p := ⟨gb155, 0, none⟩) (Kd.R_mono HO_6.out (fun k_ hk => (⟨hk, hk.2⟩ : _ ∧ k_ ≠ gb155))) (fun _ hk => hk.2) (.int .i64 ((rd_T27 l1 x15_1).f0))) (fun _ hk => hk.2) (.int .i64 ((rd_T27 l1 x15_1).f1))) (fun _ hk => hk.2) (.int .i64 ((rd_T27 l1 x15_1).f2))) (fun _ hk => hk.2) (.int .i64 ((rd_T27 l1 x15_1).f3))) (fun _ hk => hk.2) (.int .i64 ((rd_T27 l1 x15_1).f4))) (fun _ hk => hk.2) (.string ((rd_T27 l1 x15_1).f5))) (fun _ hk => hk.2) (.int .i64 ((rd_T27 l1 x15_1).f6))) (fun _ h_ => h_.1))))) (g := gb155) (o := .cells #[.int .i64 ((rd_T27 l1 x15_1).f0), .int .i64 ((rd_T27 l1 x15_1).f1), .int .i64 ((rd_T27 l1 x15_1).f2), .int .i64 ((rd_T27 l1 x15_1).f3), .int .i64 ((rd_T27 l1 x15_1).f4), .string ((rd_T27 l1 x15_1).f5), .int .i64 ((rd_T27 l1 x15_1).f6)] 27 (0, 0)) (by (with_reducible repeat (first | refine blk_drewN ?_ _ | refine blk_drew ?_ | refine blk_alloc ?_ _)); refine blk_put (cs := #[.int .i64 ((rd_T27 l1 x15_1).f0), .int .i64 ((rd_T27 l1 x15_1).f1), .int .i64 ((rd_T27 l1 x15_1).f2), .int .i64 ((rd_T27 l1 x15_1).f3), .int .i64 ((rd_T27 l1 x15_1).f4), .string ((rd_T27 l1 x15_1).f5), .int .i64 0]) ?_ 6 _ rfl; (with_reducible repeat (first | refine blk_drewN ?_ _ | refine blk_drew ?_ | refine blk_alloc ?_ _)); refine blk_put (cs := #[.int .i64 ((rd_T27 l1 x15_1).f0), .int .i64 ((rd_T27 l1 x15_1).f1), .int .i64 ((rd_T27 l1 x15_1).f2), .int .i64 ((rd_T27 l1 x15_1).f3), .int .i64 ((rd_T27 l1 x15_1).f4), .string (⟨#[]⟩ : ByteArray), .int .i64 0]) ?_ 5 _ rfl; (with_reducible repeat (first | refine blk_drewN ?_ _ | refine blk_drew ?_ | refine blk_alloc ?_ _)); refine blk_put (cs := #[.int .i64 ((rd_T27 l1 x15_1).f0), .int .i64 ((rd_T27 l1 x15_1).f1), .int .i64 ((rd_T27 l1 x15_1).f2), .int .i64 ((rd_T27 l1 x15_1).f3), .int .i64 0, .string (⟨#[]⟩ : ByteArray), .int .i64 0]) ?_ 4 _ rfl; (with_reducible repeat (first | refine blk_drewN ?_ _ | refine blk_drew ?_ | refine blk_alloc ?_ _)); refine blk_put (cs := #[.int .i64 ((rd_T27 l1 x15_1).f0), .int .i64 ((rd_T27 l1 x15_1).f1), .int .i64 ((rd_T27 l1 x15_1).f2), .int .i64 0, .int .i64 0, .string (⟨#[]⟩ : ByteArray), .int .i64 0]) ?_ 3 _ rfl; (with_reducible repeat (first | refine blk_drewN ?_ _ | refine blk_drew ?_ | refine blk_alloc ?_ _)); refine blk_put (cs := #[.int .i64 ((rd_T27 l1 x15_1).f0), .int .i64 ((rd_T27 l1 x15_1).f1), .int .i64 0, .int .i64 0, .int .i64 0, .string (⟨#[]⟩ : ByteArray), .int .i64 0]) ?_ 2 _ rfl; (with_reducible repeat (first | refine blk_drewN ?_ _ | refine blk_drew ?_ | refine blk_alloc ?_ _)); refine blk_put (cs := #[.int .i64 ((rd_T27 l1 x15_1).f0), .int .i64 0, .int .i64 0, .int .i64 0, .int .i64 0, .string (⟨#[]⟩ : ByteArray), .int .i64 0]) ?_ 1 _ rfl; (with_reducible repeat (first | refine blk_drewN ?_ _ | refine blk_drew ?_ | refine blk_alloc ?_ _)); refine blk_put (cs := #[.int .i64 0, .int .i64 0, .int .i64 0, .int .i64 0, .int .i64 0, .string (⟨#[]⟩ : ByteArray), .int .i64 0]) ?_ 0 _ rfl; (with_reducible repeat (first | refine blk_drewN ?_ _ | refine blk_drew ?_ | refine blk_alloc ?_ _)); exact BK155.out)) (below_size (hbw HB.out))); have n2_ := Aside0.mk (blk_below (g := gb144) (o := .cells #[.int .i64 a0_0, .int .i64 a0_1] 23 (0, 0)) (by (with_reducible repeat (first | refine blk_drewN ?_ _ | refine blk_drew ?_ | refine blk_alloc ?_ _)); refine blk_far ?_ NB144_155.out _; (with_reducible repeat (first | refine blk_drewN ?_ _ | refine blk_drew ?_ | refine blk_alloc ?_ _)); refine blk_far ?_ NB144_155.out _; (with_reducible repeat (first | refine blk_drewN ?_ _ | refine blk_drew ?_ | refine blk_alloc ?_ _)); refine blk_far ?_ NB144_155.out _; (with_reducible repeat (first | refine blk_drewN ?_ _ | refine blk_drew ?_ | refine blk_alloc ?_ _)); refine blk_far ?_ NB144_155.out _; (with_reducible repeat (first | refine blk_drewN ?_ _ | refine blk_drew ?_ | refine blk_alloc ?_ _)); refine blk_far ?_ NB144_155.out _; (with_reducible repeat (first | refine blk_drewN ?_ _ | refine blk_drew ?_ | refine blk_alloc ?_ _)); refine blk_far ?_ NB144_155.out _; (with_reducible repeat (first | refine blk_drewN ?_ _ | refine blk_drew ?_ | refine blk_alloc ?_ _)); refine blk_far ?_ NB144_155.out _; (with_reducible repeat (first | refine blk_drewN ?_ _ | refine blk_drew ?_ | refine blk_alloc ?_ _)); exact BK144.out) hb); have n3_ := Aside0.mk (blk_below (g := gb153) (o := .cells #[.int .i64 x154000_1, .int .i64 x154001_1, .int .i64 x154002_1, .int .i64 x154003_1, .int .i64 x154004_1, .int .i64 x154005_1, .int .i64 x154006_1, .string x154007_1] 25 (0, 0)) (by (with_reducible repeat (first | refine blk_drewN ?_ _ | refine blk_drew ?_ | refine blk_alloc ?_ _)); refine blk_far ?_ NB153_155.out _; (with_reducible repeat (first | refine blk_drewN ?_ _ | refine blk_drew ?_ | refine blk_alloc ?_ _)); refine blk_far ?_ NB153_155.out _; (with_reducible repeat (first | refine blk_drewN ?_ _ | refine blk_drew ?_ | refine blk_alloc ?_ _)); refine blk_far ?_ NB153_155.out _; (with_reducible repeat (first | refine blk_drewN ?_ _ | refine blk_drew ?_ | refine blk_alloc ?_ _)); refine blk_far ?_ NB153_155.out _; (with_reducible repeat (first | refine blk_drewN ?_ _ | refine blk_drew ?_ | refine blk_alloc ?_ _)); refine blk_far ?_ NB153_155.out _; (with_reducible repeat (first | refine blk_drewN ?_ _ | refine blk_drew ?_ | refine blk_alloc ?_ _)); refine blk_far ?_ NB153_155.out _; (with_reducible repeat (first | refine blk_drewN ?_ _ | refine blk_drew ?_ | refine blk_alloc ?_ _)); refine blk_far ?_ NB153_155.out _; (with_reducible repeat (first | refine blk_drewN ?_ _ | refine blk_drew ?_ | refine blk_alloc ?_ _)); exact BK153.out) hb); have n4_ := Aside0.mk (blk_below (g := gb155) (o := .cells #[.int .i64 ((rd_T27 l1 x15_1).f0), .int .i64 ((rd_T27 l1 x15_1).f1), .int .i64 ((rd_T27 l1 x15_1).f2), .int .i64 ((rd_T27 l1 x15_1).f3), .int .i64 ((rd_T27 l1 x15_1).f4), .string ((rd_T27 l1 x15_1).f5), .int .i64 ((rd_T27 l1 x15_1).f6)] 27 (0, 0)) (by (with_reducible repeat (first | refine blk_drewN ?_ _ | refine blk_drew ?_ | refine blk_alloc ?_ _)); refine blk_put (cs := #[.int .i64 ((rd_T27 l1 x15_1).f0), .int .i64 ((rd_T27 l1 x15_1).f1), .int .i64 ((rd_T27 l1 x15_1).f2), .int .i64 ((rd_T27 l1 x15_1).f3), .int .i64 ((rd_T27 l1 x15_1).f4), .string ((rd_T27 l1 x15_1).f5), .int .i64 0]) ?_ 6 _ rfl; (with_reducible repeat (first | refine blk_drewN ?_ _ | refine blk_drew ?_ | refine blk_alloc ?_ _)); refine blk_put (cs := #[.int .i64 ((rd_T27 l1 x15_1).f0), .int .i64 ((rd_T27 l1 x15_1).f1), .int .i64 ((rd_T27 l1 x15_1).f2), .int .i64 ((rd_T27 l1 x15_1).f3), .int .i64 ((rd_T27 l1 x15_1).f4), .string (⟨#[]⟩ : ByteArray), .int .i64 0]) ?_ 5 _ rfl; (with_reducible repeat (first | refine blk_drewN ?_ _ | refine blk_drew ?_ | refine blk_alloc ?_ _)); refine blk_put (cs := #[.int .i64 ((rd_T27 l1 x15_1).f0), .int .i64 ((rd_T27 l1 x15_1).f1), .int .i64 ((rd_T27 l1 x15_1).f2), .int .i64 ((rd_T27 l1 x15_1).f3), .int .i64 0, .string (⟨#[]⟩ : ByteArray), .int .i64 0]) ?_ 4 _ rfl; (with_reducible repeat (first | refine blk_drewN ?_ _ | refine blk_drew ?_ | refine blk_alloc ?_ _)); refine blk_put (cs := #[.int .i64 ((rd_T27 l1 x15_1).f0), .int .i64 ((rd_T27 l1 x15_1).f1), .int .i64 ((rd_T27 l1 x15_1).f2), .int .i64 0, .int .i64 0, .string (⟨#[]⟩ : ByteArray), .int .i64 0]) ?_ 3 _ rfl; (with_reducible repeat (first | refine blk_drewN ?_ _ | refine blk_drew ?_ | refine blk_alloc ?_ _)); refine blk_put (cs := #[.int .i64 ((rd_T27 l1 x15_1).f0), .int .i64 ((rd_T27 l1 x15_1).f1), .int .i64 0, .int .i64 0, .int .i64 0, .string (⟨#[]⟩ : ByteArray), .int .i64 0]) ?_ 2 _ rfl; (with_reducible repeat (first | refine blk_drewN ?_ _ | refine blk_drew ?_ | refine blk_alloc ?_ _)); refine blk_put (cs := #[.int .i64 ((rd_T27 l1 x15_1).f0), .int .i64 0, .int .i64 0, .int .i64 0, .int .i64 0, .string (⟨#[]⟩ : ByteArray), .int .i64 0]) ?_ 1 _ rfl; (with_reducible repeat (first | refine blk_drewN ?_ _ | refine blk_drew ?_ | refine blk_alloc ?_ _)); refine blk_put (cs := #[.int .i64 0, .int .i64 0, .int .i64 0, .int .i64 0, .int .i64 0, .string (⟨#[]⟩ : ByteArray), .int .i64 0]) ?_ 0 _ rfl; (with_reducible repeat (first | refine blk_drewN ?_ _ | refine blk_drew ?_ | refine blk_alloc ?_ _)); exact BK155.out) hb); have n5_ := Aside0.mk (below_step (hbw HB.out) hb); clear HO_6; clear BK144; clear BK153; clear BK155; clear HB; have HO_6 := n0_; have HO166 := n1_; have BK144 := n2_; have BK153 := n3_; have BK155 := n4_; have HB := n5_; clear n0_ n1_ n2_ n3_ n4_ n5_; (try clear hb); (try clear hb2); (try clear hk); (try clear hi); (try clear ho0)) | ((with_reducible refine gate_dst (N := 9) rfl ?_); refine box_event ?hg (N := 9) ?hd (cs := #[.int .i64 0, .int .i64 0, .int .i64 0, .int .i64 0, .int .i64 0, .int .i64 0, .int .i64 0, .string (⟨#[]⟩ : ByteArray)]) (t := 25) ?hr ?_; (case hd => rfl); (case hg => rfl); (case hr => first | (go_simp; done) | (go_simp; rfl)); intro gb167 hg w23 hbox hb; have n0_ := Aside0.mk (Kd.R_below (rkw HO_6.out) hb); have n1_ := Aside0.mk (Kd.R_below (rkw HO166.out) hb); have n2_ := Aside0.mk (blkb BK144.out hb); have n3_ := Aside0.mk (blkb BK153.out hb); have n4_ := Aside0.mk (blkb BK155.out hb); have n5_ := Aside0.mk (below_step (hbw HB.out) hb); have n6_ := Aside0.mk (hbox); have n7_ := Aside0.mk ((by rw [hg]; exact (below_size (hbw HB.out)) : w.heap.size ≤ gb167)); have n8_ := Aside0.mk ((by rw [hg]; exact (below_size (hbw HB.out)) : w.heap.size ≤ gb167)); have n9_ := Aside0.mk ((by rw [hg]; exact Nat.ne_of_lt (blkl BK144.out) : gb144 ≠ gb167)); have n10_ := Aside0.mk ((by rw [hg]; exact Nat.ne_of_gt (blkl BK144.out) : gb167 ≠ gb144)); have n11_ := Aside0.mk ((by rw [hg]; exact Nat.ne_of_lt (blkl BK153.out) : gb153 ≠ gb167)); have n12_ := Aside0.mk ((by rw [hg]; exact Nat.ne_of_gt (blkl BK153.out) : gb167 ≠ gb153)); have n13_ := Aside0.mk ((by rw [hg]; exact Nat.ne_of_lt (blkl BK155.out) : gb155 ≠ gb167)); have n14_ := Aside0.mk ((by rw [hg]; exact Nat.ne_of_gt (blkl BK155.out) : gb167 ≠ gb155)); clear HO_6; clear HO166; clear BK144; clear BK153; clear BK155; clear HB; have HO_6 := n0_; have HO166 := n1_; have BK144 := n2_; have BK153 := n3_; have BK155 := n4_; have HB := n5_; have BK167 := n6_; have GW167 := n7_; have GE167 := n8_; have NB144_167 := n9_; have NB167_144 := n10_; have NB153_167 := n11_; have NB167_153 := n12_; have NB155_167 := n13_; have NB167_155 := n14_; clear n0_ n1_ n2_ n3_ n4_ n5_ n6_ n7_ n8_ n9_ n10_ n11_ n12_ n13_ n14_; clear hb hbox hg; have hnb24 := NB167_144.out; have hnc24 := NB144_167.out; have hnb25 := NB167_153.out; have hnc25 := NB153_167.out; have hnb26 := NB167_155.out; have hnc26 := NB155_167.out; have hcz27_0 : w23.cell? ⟨gb167, 0, none⟩ = some (.int .i64 0) := (blk_cell BK167.out 0).trans rfl; have hcz27_1 : w23.cell? ⟨gb167, 1, none⟩ = some (.int .i64 0) := (blk_cell BK167.out 1).trans rfl; have hcz27_2 : w23.cell? ⟨gb167, 2, none⟩ = some (.int .i64 0) := (blk_cell BK167.out 2).trans rfl; have hcz27_3 : w23.cell? ⟨gb167, 3, none⟩ = some (.int .i64 0) := (blk_cell BK167.out 3).trans rfl; have hcz27_4 : w23.cell? ⟨gb167, 4, none⟩ = some (.int .i64 0) := (blk_cell BK167.out 4).trans rfl; have hcz27_5 : w23.cell? ⟨gb167, 5, none⟩ = some (.int .i64 0) := (blk_cell BK167.out 5).trans rfl; have hcz27_6 : w23.cell? ⟨gb167, 6, none⟩ = some (.int .i64 0) := (blk_cell BK167.out 6).trans rfl; have hcz27_7 : w23.cell? ⟨gb167, 7, none⟩ = some (.string (⟨#[]⟩ : ByteArray)) := (blk_cell BK167.out 7).trans rfl; have hfz27_0 := blk_frozen BK167.out 0; have hfz27_1 := blk_frozen BK167.out 1; have hfz27_2 := blk_frozen BK167.out 2; have hfz27_3 := blk_frozen BK167.out 3; have hfz27_4 := blk_frozen BK167.out 4; have hfz27_5 := blk_frozen BK167.out 5; have hfz27_6 := blk_frozen BK167.out 6; have hfz27_7 := blk_frozen BK167.out 7))
       have n0_ : Aside0 (Kd.R k27 27 ((((((((w23.setCell ⟨gb167, 0, none⟩ (.int .i64 t156)).setCell ⟨gb167, 1, none⟩ (.int .i64 t157)).setCell ⟨gb167, 2, none⟩ (.int .i64 t158)).setCell ⟨gb167, 3, none⟩ (.int .i64 t159)).setCell ⟨gb167, 4, none⟩ (.int .i64 t160)).setCell ⟨gb167, 5, none⟩ (.int .i64 t161)).setCell ⟨gb167, 6, none⟩ (.int .i64 t162)).setCell ⟨gb167, 7, none⟩ (.string t163)) w.heap.size (fun k_ => some k_ ≠ (v165 : Value).ownBlock ∧ k_ ≠ gb155) u6 x6_1) := ⟨by (with_reducible repeat (first | apply Kd.R_alloc | apply Kd.R_drewN | apply Kd.R_drew)); exact Kd.R_mono (Kd.R_far (p := ⟨gb167, 7, none⟩) (Kd.R_far (p := ⟨gb167, 6, none⟩) (Kd.R_far (p := ⟨gb167, 5, none⟩) (Kd.R_far (p := ⟨gb167, 4, none⟩) (Kd.R_far (p := ⟨gb167, 3, none⟩) (Kd.R_far (p := ⟨gb167, 2, none⟩) (Kd.R_far (p := ⟨gb167, 1, none⟩) (Kd.R_far (p := ⟨gb167, 0, none⟩) (Kd.R_types HO_6.out BK167.out (by decide)) (fun _ hk => hk.2) (.int .i64 t156)) (fun _ hk => hk.2) (.int .i64 t157)) (fun _ hk => hk.2) (.int .i64 t158)) (fun _ hk => hk.2) (.int .i64 t159)) (fun _ hk => hk.2) (.int .i64 t160)) (fun _ hk => hk.2) (.int .i64 t161)) (fun _ hk => hk.2) (.int .i64 t162)) (fun _ hk => hk.2) (.string t163)) (fun _ hk => ⟨hk.1.2, hk.1.1.2⟩)⟩
       have n1_ : Aside0 (Kd.R k27 27 ((((((((w23.setCell ⟨gb167, 0, none⟩ (.int .i64 t156)).setCell ⟨gb167, 1, none⟩ (.int .i64 t157)).setCell ⟨gb167, 2, none⟩ (.int .i64 t158)).setCell ⟨gb167, 3, none⟩ (.int .i64 t159)).setCell ⟨gb167, 4, none⟩ (.int .i64 t160)).setCell ⟨gb167, 5, none⟩ (.int .i64 t161)).setCell ⟨gb167, 6, none⟩ (.int .i64 t162)).setCell ⟨gb167, 7, none⟩ (.string t163)) w.heap.size (fun k_ => some k_ ≠ (u6 : Value).ownBlock ∧ k_ ≠ gb155) v165 t164) := ⟨by (with_reducible repeat (first | apply Kd.R_alloc | apply Kd.R_drewN | apply Kd.R_drew)); exact Kd.R_mono (Kd.R_far (p := ⟨gb167, 7, none⟩) (Kd.R_far (p := ⟨gb167, 6, none⟩) (Kd.R_far (p := ⟨gb167, 5, none⟩) (Kd.R_far (p := ⟨gb167, 4, none⟩) (Kd.R_far (p := ⟨gb167, 3, none⟩) (Kd.R_far (p := ⟨gb167, 2, none⟩) (Kd.R_far (p := ⟨gb167, 1, none⟩) (Kd.R_far (p := ⟨gb167, 0, none⟩) (Kd.R_types HO166.out BK167.out (by decide)) (fun _ hk => hk.2) (.int .i64 t156)) (fun _ hk => hk.2) (.int .i64 t157)) (fun _ hk => hk.2) (.int .i64 t158)) (fun _ hk => hk.2) (.int .i64 t159)) (fun _ hk => hk.2) (.int .i64 t160)) (fun _ hk => hk.2) (.int .i64 t161)) (fun _ hk => hk.2) (.int .i64 t162)) (fun _ hk => hk.2) (.string t163)) (fun _ hk => ⟨hk.1.1.2, hk.1.2⟩)⟩
       have n2_ : Aside0 (((((((((w23.setCell ⟨gb167, 0, none⟩ (.int .i64 t156)).setCell ⟨gb167, 1, none⟩ (.int .i64 t157)).setCell ⟨gb167, 2, none⟩ (.int .i64 t158)).setCell ⟨gb167, 3, none⟩ (.int .i64 t159)).setCell ⟨gb167, 4, none⟩ (.int .i64 t160)).setCell ⟨gb167, 5, none⟩ (.int .i64 t161)).setCell ⟨gb167, 6, none⟩ (.int .i64 t162)).setCell ⟨gb167, 7, none⟩ (.string t163)).heap[gb144]? = some (.cells #[.int .i64 a0_0, .int .i64 a0_1] 23 (0, 0))) := ⟨by (with_reducible repeat (first | refine blk_drewN ?_ _ | refine blk_drew ?_ | refine blk_alloc ?_ _)); refine blk_far ?_ NB144_167.out _; (with_reducible repeat (first | refine blk_drewN ?_ _ | refine blk_drew ?_ | refine blk_alloc ?_ _)); refine blk_far ?_ NB144_167.out _; (with_reducible repeat (first | refine blk_drewN ?_ _ | refine blk_drew ?_ | refine blk_alloc ?_ _)); refine blk_far ?_ NB144_167.out _; (with_reducible repeat (first | refine blk_drewN ?_ _ | refine blk_drew ?_ | refine blk_alloc ?_ _)); refine blk_far ?_ NB144_167.out _; (with_reducible repeat (first | refine blk_drewN ?_ _ | refine blk_drew ?_ | refine blk_alloc ?_ _)); refine blk_far ?_ NB144_167.out _; (with_reducible repeat (first | refine blk_drewN ?_ _ | refine blk_drew ?_ | refine blk_alloc ?_ _)); refine blk_far ?_ NB144_167.out _; (with_reducible repeat (first | refine blk_drewN ?_ _ | refine blk_drew ?_ | refine blk_alloc ?_ _)); refine blk_far ?_ NB144_167.out _; (with_reducible repeat (first | refine blk_drewN ?_ _ | refine blk_drew ?_ | refine blk_alloc ?_ _)); refine blk_far ?_ NB144_167.out _; (with_reducible repeat (first | refine blk_drewN ?_ _ | refine blk_drew ?_ | refine blk_alloc ?_ _)); exact BK144.out⟩
       have n3_ : Aside0 (((((((((w23.setCell ⟨gb167, 0, none⟩ (.int .i64 t156)).setCell ⟨gb167, 1, none⟩ (.int .i64 t157)).setCell ⟨gb167, 2, none⟩ (.int .i64 t158)).setCell ⟨gb167, 3, none⟩ (.int .i64 t159)).setCell ⟨gb167, 4, none⟩ (.int .i64 t160)).setCell ⟨gb167, 5, none⟩ (.int .i64 t161)).setCell ⟨gb167, 6, none⟩ (.int .i64 t162)).setCell ⟨gb167, 7, none⟩ (.string t163)).heap[gb153]? = some (.cells #[.int .i64 x154000_1, .int .i64 x154001_1, .int .i64 x154002_1, .int .i64 x154003_1, .int .i64 x154004_1, .int .i64 x154005_1, .int .i64 x154006_1, .string x154007_1] 25 (0, 0))) := ⟨by (with_reducible repeat (first | refine blk_drewN ?_ _ | refine blk_drew ?_ | refine blk_alloc ?_ _)); refine blk_far ?_ NB153_167.out _; (with_reducible repeat (first | refine blk_drewN ?_ _ | refine blk_drew ?_ | refine blk_alloc ?_ _)); refine blk_far ?_ NB153_167.out _; (with_reducible repeat (first | refine blk_drewN ?_ _ | refine blk_drew ?_ | refine blk_alloc ?_ _)); refine blk_far ?_ NB153_167.out _; (with_reducible repeat (first | refine blk_drewN ?_ _ | refine blk_drew ?_ | refine blk_alloc ?_ _)); refine blk_far ?_ NB153_167.out _; (with_reducible repeat (first | refine blk_drewN ?_ _ | refine blk_drew ?_ | refine blk_alloc ?_ _)); refine blk_far ?_ NB153_167.out _; (with_reducible repeat (first | refine blk_drewN ?_ _ | refine blk_drew ?_ | refine blk_alloc ?_ _)); refine blk_far ?_ NB153_167.out _; (with_reducible repeat (first | refine blk_drewN ?_ _ | refine blk_drew ?_ | refine blk_alloc ?_ _)); refine blk_far ?_ NB153_167.out _; (with_reducible repeat (first | refine blk_drewN ?_ _ | refine blk_drew ?_ | refine blk_alloc ?_ _)); refine blk_far ?_ NB153_167.out _; (with_reducible repeat (first | refine blk_drewN ?_ _ | refine blk_drew ?_ | refine blk_alloc ?_ _)); exact BK153.out⟩
       have n4_ : Aside0 (((((((((w23.setCell ⟨gb167, 0, none⟩ (.int .i64 t156)).setCell ⟨gb167, 1, none⟩ (.int .i64 t157)).setCell ⟨gb167, 2, none⟩ (.int .i64 t158)).setCell ⟨gb167, 3, none⟩ (.int .i64 t159)).setCell ⟨gb167, 4, none⟩ (.int .i64 t160)).setCell ⟨gb167, 5, none⟩ (.int .i64 t161)).setCell ⟨gb167, 6, none⟩ (.int .i64 t162)).setCell ⟨gb167, 7, none⟩ (.string t163)).heap[gb155]? = some (.cells #[.int .i64 ((rd_T27 l1 x15_1).f0), .int .i64 ((rd_T27 l1 x15_1).f1), .int .i64 ((rd_T27 l1 x15_1).f2), .int .i64 ((rd_T27 l1 x15_1).f3), .int .i64 ((rd_T27 l1 x15_1).f4), .string ((rd_T27 l1 x15_1).f5), .int .i64 ((rd_T27 l1 x15_1).f6)] 27 (0, 0))) := ⟨by (with_reducible repeat (first | refine blk_drewN ?_ _ | refine blk_drew ?_ | refine blk_alloc ?_ _)); refine blk_far ?_ NB155_167.out _; (with_reducible repeat (first | refine blk_drewN ?_ _ | refine blk_drew ?_ | refine blk_alloc ?_ _)); refine blk_far ?_ NB155_167.out _; (with_reducible repeat (first | refine blk_drewN ?_ _ | refine blk_drew ?_ | refine blk_alloc ?_ _)); refine blk_far ?_ NB155_167.out _; (with_reducible repeat (first | refine blk_drewN ?_ _ | refine blk_drew ?_ | refine blk_alloc ?_ _)); refine blk_far ?_ NB155_167.out _; (with_reducible repeat (first | refine blk_drewN ?_ _ | refine blk_drew ?_ | refine blk_alloc ?_ _)); refine blk_far ?_ NB155_167.out _; (with_reducible repeat (first | refine blk_drewN ?_ _ | refine blk_drew ?_ | refine blk_alloc ?_ _)); refine blk_far ?_ NB155_167.out _; (with_reducible repeat (first | refine blk_drewN ?_ _ | refine blk_drew ?_ | refine blk_alloc ?_ _)); refine blk_far ?_ NB155_167.out _; (with_reducible repeat (first | refine blk_drewN ?_ _ | refine blk_drew ?_ | refine blk_alloc ?_ _)); refine blk_far ?_ NB155_167.out _; (with_reducible repeat (first | refine blk_drewN ?_ _ | refine blk_drew ?_ | refine blk_alloc ?_ _)); exact BK155.out⟩
       have n5_ : Aside0 (((((((((w23.setCell ⟨gb167, 0, none⟩ (.int .i64 t156)).setCell ⟨gb167, 1, none⟩ (.int .i64 t157)).setCell ⟨gb167, 2, none⟩ (.int .i64 t158)).setCell ⟨gb167, 3, none⟩ (.int .i64 t159)).setCell ⟨gb167, 4, none⟩ (.int .i64 t160)).setCell ⟨gb167, 5, none⟩ (.int .i64 t161)).setCell ⟨gb167, 6, none⟩ (.int .i64 t162)).setCell ⟨gb167, 7, none⟩ (.string t163)).heap[gb167]? = some (.cells #[.int .i64 t156, .int .i64 t157, .int .i64 t158, .int .i64 t159, .int .i64 t160, .int .i64 t161, .int .i64 t162, .string t163] 25 (0, 0))) := ⟨by (with_reducible repeat (first | refine blk_drewN ?_ _ | refine blk_drew ?_ | refine blk_alloc ?_ _)); refine blk_put (cs := #[.int .i64 t156, .int .i64 t157, .int .i64 t158, .int .i64 t159, .int .i64 t160, .int .i64 t161, .int .i64 t162, .string (⟨#[]⟩ : ByteArray)]) ?_ 7 _ rfl; (with_reducible repeat (first | refine blk_drewN ?_ _ | refine blk_drew ?_ | refine blk_alloc ?_ _)); refine blk_put (cs := #[.int .i64 t156, .int .i64 t157, .int .i64 t158, .int .i64 t159, .int .i64 t160, .int .i64 t161, .int .i64 0, .string (⟨#[]⟩ : ByteArray)]) ?_ 6 _ rfl; (with_reducible repeat (first | refine blk_drewN ?_ _ | refine blk_drew ?_ | refine blk_alloc ?_ _)); refine blk_put (cs := #[.int .i64 t156, .int .i64 t157, .int .i64 t158, .int .i64 t159, .int .i64 t160, .int .i64 0, .int .i64 0, .string (⟨#[]⟩ : ByteArray)]) ?_ 5 _ rfl; (with_reducible repeat (first | refine blk_drewN ?_ _ | refine blk_drew ?_ | refine blk_alloc ?_ _)); refine blk_put (cs := #[.int .i64 t156, .int .i64 t157, .int .i64 t158, .int .i64 t159, .int .i64 0, .int .i64 0, .int .i64 0, .string (⟨#[]⟩ : ByteArray)]) ?_ 4 _ rfl; (with_reducible repeat (first | refine blk_drewN ?_ _ | refine blk_drew ?_ | refine blk_alloc ?_ _)); refine blk_put (cs := #[.int .i64 t156, .int .i64 t157, .int .i64 t158, .int .i64 0, .int .i64 0, .int .i64 0, .int .i64 0, .string (⟨#[]⟩ : ByteArray)]) ?_ 3 _ rfl; (with_reducible repeat (first | refine blk_drewN ?_ _ | refine blk_drew ?_ | refine blk_alloc ?_ _)); refine blk_put (cs := #[.int .i64 t156, .int .i64 t157, .int .i64 0, .int .i64 0, .int .i64 0, .int .i64 0, .int .i64 0, .string (⟨#[]⟩ : ByteArray)]) ?_ 2 _ rfl; (with_reducible repeat (first | refine blk_drewN ?_ _ | refine blk_drew ?_ | refine blk_alloc ?_ _)); refine blk_put (cs := #[.int .i64 t156, .int .i64 0, .int .i64 0, .int .i64 0, .int .i64 0, .int .i64 0, .int .i64 0, .string (⟨#[]⟩ : ByteArray)]) ?_ 1 _ rfl; (with_reducible repeat (first | refine blk_drewN ?_ _ | refine blk_drew ?_ | refine blk_alloc ?_ _)); refine blk_put (cs := #[.int .i64 0, .int .i64 0, .int .i64 0, .int .i64 0, .int .i64 0, .int .i64 0, .int .i64 0, .string (⟨#[]⟩ : ByteArray)]) ?_ 0 _ rfl; (with_reducible repeat (first | refine blk_drewN ?_ _ | refine blk_drew ?_ | refine blk_alloc ?_ _)); exact BK167.out⟩
       have n6_ : Aside0 (Below w.heap.size w ((((((((w23.setCell ⟨gb167, 0, none⟩ (.int .i64 t156)).setCell ⟨gb167, 1, none⟩ (.int .i64 t157)).setCell ⟨gb167, 2, none⟩ (.int .i64 t158)).setCell ⟨gb167, 3, none⟩ (.int .i64 t159)).setCell ⟨gb167, 4, none⟩ (.int .i64 t160)).setCell ⟨gb167, 5, none⟩ (.int .i64 t161)).setCell ⟨gb167, 6, none⟩ (.int .i64 t162)).setCell ⟨gb167, 7, none⟩ (.string t163))) := ⟨by repeat (first | (with_reducible first | exact HB.out | apply below_alloc | apply pw_below_drewN | apply below_drew1 | refine below_set ?_ GE144.out | refine below_set ?_ GE153.out | refine below_set ?_ GE155.out | refine below_set ?_ GE167.out) | exact HB.out)⟩
       (try clear HO_6)
       (try clear HO166)
       (try clear BK144)
       (try clear BK153)
       (try clear BK155)
       (try clear BK167)
       (try clear HB)
       generalize ((((((((w23.setCell ⟨gb167, 0, none⟩ (.int .i64 t156)).setCell ⟨gb167, 1, none⟩ (.int .i64 t157)).setCell ⟨gb167, 2, none⟩ (.int .i64 t158)).setCell ⟨gb167, 3, none⟩ (.int .i64 t159)).setCell ⟨gb167, 4, none⟩ (.int .i64 t160)).setCell ⟨gb167, 5, none⟩ (.int .i64 t161)).setCell ⟨gb167, 6, none⟩ (.int .i64 t162)).setCell ⟨gb167, 7, none⟩ (.string t163)) = w28 at n0_ n1_ n2_ n3_ n4_ n5_ n6_ ⊢
       have HO_6 := n0_
       have HO166 := n1_
       have BK144 := n2_
       have BK153 := n3_
       have BK155 := n4_
       have BK167 := n5_
       have HB := n6_
       clear n0_ n1_ n2_ n3_ n4_ n5_ n6_
       have n0_ := Aside0.mk (Kd.R_drew HO_6.out)
       have n1_ := Aside0.mk (Kd.R_drew HO166.out)
       have n2_ := Aside0.mk (blk_drew BK144.out)
       have n3_ := Aside0.mk (blk_drew BK153.out)
       have n4_ := Aside0.mk (blk_drew BK155.out)
       have n5_ := Aside0.mk (blk_drew BK167.out)
       have n6_ := Aside0.mk (below_drew1 HB.out)
       clear HO_6
       clear HO166
       clear BK144
       clear BK153
       clear BK155
       clear BK167
       clear HB
       have HO_6 := n0_
       have HO166 := n1_
       have BK144 := n2_
       have BK153 := n3_
       have BK155 := n4_
       have BK167 := n5_
       have HB := n6_
       clear n0_ n1_ n2_ n3_ n4_ n5_ n6_
       obtain ⟨Ao31, co31, eo31⟩ := Kd.R_slice HO166.out
       (first | subst eo31 | (injection eo31 with f1_ f2_ f3_; have f4_ := f1_.symm; have f5_ := f3_.symm; clear f1_ f2_ f3_; subst f4_; subst f5_))
       refine start_ (n := 6) (S := fun w' => w'.cell? ⟨gb167, 0, none⟩ = some (.int .i64 t156) ∧ w'.cell? ⟨gb167, 1, none⟩ = some (.int .i64 t157) ∧ w'.cell? ⟨gb167, 2, none⟩ = some (.int .i64 t158) ∧ w'.cell? ⟨gb167, 3, none⟩ = some (.int .i64 t159) ∧ w'.cell? ⟨gb167, 4, none⟩ = some (.int .i64 t160) ∧ w'.cell? ⟨gb167, 5, none⟩ = some (.int .i64 t161) ∧ w'.cell? ⟨gb167, 6, none⟩ = some (.int .i64 t162) ∧ w'.cell? ⟨gb167, 7, none⟩ = some (.string t163)) (ds := []) #[false, false, false, false, false, false] (by kernel_rfl) rfl rfl ⟨(blk_cell BK167.out 0).trans rfl, (blk_cell BK167.out 1).trans rfl, (blk_cell BK167.out 2).trans rfl, (blk_cell BK167.out 3).trans rfl, (blk_cell BK167.out 4).trans rfl, (blk_cell BK167.out 5).trans rfl, (blk_cell BK167.out 6).trans rfl, (blk_cell BK167.out 7).trans rfl⟩ (fun hHeld => ?_)
       generalize w28.drew = w29 at HO_6 HO166 BK144 BK153 BK155 BK167 HB hHeld ⊢
       refine pure_ (i := 1) (N := some 27) (v := ?_) (a' := ?_) #[false, true, false, false, false, false] rfl rfl (by kernel_rfl) (fun _ _ _ h => h) (Or.inl ⟨by rfl, ?_⟩) ?_ ?_
       rotate_left
       ·intro w'
        go_simp
        with_reducible rfl
       rotate_left
       ·simp only [Act.put, nrm]
        rfl
       refine pure_ (i := 2) (N := some 28) (v := ?_) (a' := ?_) #[false, true, true, false, false, false] rfl rfl (by kernel_rfl) (fun _ _ _ h => h) (Or.inl ⟨by rfl, ?_⟩) ?_ ?_
       rotate_left
       ·intro w'
        go_simp
        with_reducible rfl
       rotate_left
       ·simp only [Act.put, nrm]
        rfl
       refine take_ (i := 0) (N := some 26) (v := ?_) (a' := ?_) #[true, true, true, false, false, false] rfl rfl (by kernel_rfl) (fun _ _ _ h => h) (Or.inl ⟨by rfl, ?_⟩) hHeld ?_ ?_
       rotate_left
       ·rintro w' ⟨s0, s1, s2, s3, s4, s5, s6, s7⟩
        go_simp
        with_reducible rfl
       rotate_left
       ·simp only [Act.put, nrm]
        rfl
       refine one_ (i := 3) (N := some 29) #[true, true, true, true, false, false] rfl rfl (by kernel_rfl) (by decide) (fun K hK => ?_)
       refine Kd.R_append_rows_step k27 (w0 := w) w.heap.size (by rfl) (.tmp 27) (.tmp 28) 31 27 (.agg #[(.int .i64 0), (.int .i64 0), (.int .i64 0), (.int .i64 0), (.int .i64 0), (.string ⟨#[]⟩), (.int .i64 0)]) 64 rfl Try.underlying31 info27 rfl (by decide) (by omega) u6 x6_1 t164 _ _ _ (fun k_ => some k_ ≠ (.slice Ao31 t164.length co31 : Value).ownBlock ∧ k_ ≠ gb155) (fun _ => False) rfl rfl ?aO ?aR (fun _ _ h => h) (fun _ h => h.elim) ?aF ?aB ?aS ?aL ?_
       (case aR => repeat (first | exact (Kd.R_reads' HO166.out).2.2 | (with_reducible refine Kd.C_alloc ?_ _) | (with_reducible refine Kd.C_drewN ?_ _) | (with_reducible refine Kd.C_drew ?_)))
       (case aB => exact (hbw HB.out))
       (case aF => exact (fun k_ hk => ⟨Kd.fresh' (Kd.R_lt (rkw HO166.out)) k_ hk, Kd.freshB (g := gb155) (o := .cells #[.int .i64 ((rd_T27 l1 x15_1).f0), .int .i64 ((rd_T27 l1 x15_1).f1), .int .i64 ((rd_T27 l1 x15_1).f2), .int .i64 ((rd_T27 l1 x15_1).f3), .int .i64 ((rd_T27 l1 x15_1).f4), .string ((rd_T27 l1 x15_1).f5), .int .i64 ((rd_T27 l1 x15_1).f6)] 27 (0, 0)) (bkw BK155.out) k_ hk⟩))
       (case aO => exact (rkw HO_6.out))
       (case aS => exact (below_size (hbw HB.out)))
       (case aL => have := LMc14.out; omega)
       intro v169 w30 ho hb hg hat
       rw [← Ny168.out] at ho
       have n0_ := Aside0.mk (blkg BK144.out hg (Kd.R_ne HO_6.out BK144.out (by decide)))
       have n1_ := Aside0.mk (blkg BK153.out hg (Kd.R_ne HO_6.out BK153.out (by decide)))
       have n2_ := Aside0.mk (blkg BK155.out hg (Kd.R_away HO_6.out (fun _ hk => hk.2)))
       have n3_ := Aside0.mk (Kd.R_after (ok := (fun k_ => k_ ≠ gb155)) (by (with_reducible repeat (first | apply Kd.R_alloc | apply Kd.R_drewN | apply Kd.R_drew)); exact Kd.R_mono HO166.out (fun _ hk => ⟨hk.2, hk.1⟩)) hg hat)
       have n4_ := Aside0.mk (blkg BK167.out hg (Kd.R_ne HO_6.out BK167.out (by decide)))
       have n5_ := Aside0.mk (hb)
       have n6_ := Aside0.mk (ho)
       clear BK144
       clear BK153
       clear BK155
       clear HO166
       clear BK167
       clear HB
       clear HO_6
       have BK144 := n0_
       have BK153 := n1_
       have BK155 := n2_
       have HO166 := n3_
       have BK167 := n4_
       have HB := n5_
       have HO170 := n6_
       clear n0_ n1_ n2_ n3_ n4_ n5_ n6_
       clear ho hb hg hat
       refine hK.out _ _ ⟨(blk_cell BK167.out 0).trans rfl, (blk_cell BK167.out 1).trans rfl, (blk_cell BK167.out 2).trans rfl, (blk_cell BK167.out 3).trans rfl, (blk_cell BK167.out 4).trans rfl, (blk_cell BK167.out 5).trans rfl, (blk_cell BK167.out 6).trans rfl, (blk_cell BK167.out 7).trans rfl⟩ (fun hHeld => ?_)
       clear hK K
       refine norm_ (a' := ?_) ?_ ?_
       rotate_left
       ·show Act.put _ (some 29) _ = _
        simp only [Act.put, nrm]
        rfl
       refine one_ (i := 4) (N := none) #[true, true, true, true, true, false] rfl rfl (by kernel_rfl) (by decide) (fun K hK => ?_)
       have hs32 : w30.cell? ⟨gb153, 0, none⟩ = some (.int .i64 x154000_1) := (blk_cell BK153.out 0).trans rfl
       have hfs32 := blk_frozen BK153.out 0
       have hns32_0 := NB144_153.out
       have hns32_2 := NB155_153.out
       have hns32_3 := NB167_153.out
       have hms32_0 := NB153_144.out
       have hms32_2 := NB153_155.out
       have hms32_3 := NB153_167.out
       have hs33 : w30.cell? ⟨gb153, 1, none⟩ = some (.int .i64 x154001_1) := (blk_cell BK153.out 1).trans rfl
       have hfs33 := blk_frozen BK153.out 1
       have hns33_0 := NB144_153.out
       have hns33_2 := NB155_153.out
       have hns33_3 := NB167_153.out
       have hms33_0 := NB153_144.out
       have hms33_2 := NB153_155.out
       have hms33_3 := NB153_167.out
       have hs34 : w30.cell? ⟨gb153, 2, none⟩ = some (.int .i64 x154002_1) := (blk_cell BK153.out 2).trans rfl
       have hfs34 := blk_frozen BK153.out 2
       have hns34_0 := NB144_153.out
       have hns34_2 := NB155_153.out
       have hns34_3 := NB167_153.out
       have hms34_0 := NB153_144.out
       have hms34_2 := NB153_155.out
       have hms34_3 := NB153_167.out
       have hs35 : w30.cell? ⟨gb153, 3, none⟩ = some (.int .i64 x154003_1) := (blk_cell BK153.out 3).trans rfl
       have hfs35 := blk_frozen BK153.out 3
       have hns35_0 := NB144_153.out
       have hns35_2 := NB155_153.out
       have hns35_3 := NB167_153.out
       have hms35_0 := NB153_144.out
       have hms35_2 := NB153_155.out
       have hms35_3 := NB153_167.out
       have hs36 : w30.cell? ⟨gb153, 4, none⟩ = some (.int .i64 x154004_1) := (blk_cell BK153.out 4).trans rfl
       have hfs36 := blk_frozen BK153.out 4
       have hns36_0 := NB144_153.out
       have hns36_2 := NB155_153.out
       have hns36_3 := NB167_153.out
       have hms36_0 := NB153_144.out
       have hms36_2 := NB153_155.out
       have hms36_3 := NB153_167.out
       have hs37 : w30.cell? ⟨gb153, 5, none⟩ = some (.int .i64 x154005_1) := (blk_cell BK153.out 5).trans rfl
       have hfs37 := blk_frozen BK153.out 5
       have hns37_0 := NB144_153.out
       have hns37_2 := NB155_153.out
       have hns37_3 := NB167_153.out
       have hms37_0 := NB153_144.out
       have hms37_2 := NB153_155.out
       have hms37_3 := NB153_167.out
       have hs38 : w30.cell? ⟨gb153, 6, none⟩ = some (.int .i64 x154006_1) := (blk_cell BK153.out 6).trans rfl
       have hfs38 := blk_frozen BK153.out 6
       have hns38_0 := NB144_153.out
       have hns38_2 := NB155_153.out
       have hns38_3 := NB167_153.out
       have hms38_0 := NB153_144.out
       have hms38_2 := NB153_155.out
       have hms38_3 := NB153_167.out
       have hs39 : w30.cell? ⟨gb153, 7, none⟩ = some (.string x154007_1) := (blk_cell BK153.out 7).trans rfl
       have hfs39 := blk_frozen BK153.out 7
       have hns39_0 := NB144_153.out
       have hns39_2 := NB155_153.out
       have hns39_3 := NB167_153.out
       have hms39_0 := NB153_144.out
       have hms39_2 := NB153_155.out
       have hms39_3 := NB153_167.out
       refine skip_ (w1 := ?_) (by rfl) rfl ?_ ?_
       rotate_left
       ·go_simp
        rfl
       refine hK.out _ _ ⟨((far8 (g := gb153) NB167_153.out).trans (hHeld.1)), ((far8 (g := gb153) NB167_153.out).trans (hHeld.2.1)), ((far8 (g := gb153) NB167_153.out).trans (hHeld.2.2.1)), ((far8 (g := gb153) NB167_153.out).trans (hHeld.2.2.2.1)), ((far8 (g := gb153) NB167_153.out).trans (hHeld.2.2.2.2.1)), ((far8 (g := gb153) NB167_153.out).trans (hHeld.2.2.2.2.2.1)), ((far8 (g := gb153) NB167_153.out).trans (hHeld.2.2.2.2.2.2.1)), ((far8 (g := gb153) NB167_153.out).trans (hHeld.2.2.2.2.2.2.2))⟩ (fun hHeld => ?_)
       clear hK K
       refine pure_ (i := 5) (N := some 6) (v := ?_) (a' := ?_) #[true, true, true, true, true, true] rfl rfl (by kernel_rfl) (fun _ _ _ h => h) (Or.inl ⟨by rfl, ?_⟩) ?_ ?_
       rotate_left
       ·intro w'
        go_simp
        with_reducible rfl
       rotate_left
       ·simp only [Act.put, nrm]
        rfl
       refine done_ (by kernel_rfl) ?_
       try go_wp2
       go_roundg k1
       case measure => have := HK1.out; omega
       case rel => exact ⟨(y168), (wrap64 (x15_1 + 1)), (t156), (t157), (t158), (t159), (t160), (t161), (t162), (t163), (by first | rfl | (simp; done) | (simp [*]; done)), H', ⟨by have := HK1.out; omega⟩, ⟨by (with_reducible repeat (first | apply Kd.R_alloc | apply Kd.R_drewN | apply Kd.R_drew)); exact Kd.R_mono (Kd.R_far (p := ⟨gb153, 7, none⟩) (Kd.R_far (p := ⟨gb153, 6, none⟩) (Kd.R_far (p := ⟨gb153, 5, none⟩) (Kd.R_far (p := ⟨gb153, 4, none⟩) (Kd.R_far (p := ⟨gb153, 3, none⟩) (Kd.R_far (p := ⟨gb153, 2, none⟩) (Kd.R_far (p := ⟨gb153, 1, none⟩) (Kd.R_far (p := ⟨gb153, 0, none⟩) (Kd.R_types HO170.out BK153.out (by decide)) (fun _ hk => hk.2) (.int .i64 t156)) (fun _ hk => hk.2) (.int .i64 t157)) (fun _ hk => hk.2) (.int .i64 t158)) (fun _ hk => hk.2) (.int .i64 t159)) (fun _ hk => hk.2) (.int .i64 t160)) (fun _ hk => hk.2) (.int .i64 t161)) (fun _ hk => hk.2) (.int .i64 t162)) (fun _ hk => hk.2) (.string t163)) (fun _ hk => trivial)⟩, ⟨by (with_reducible repeat (first | refine blk_drewN ?_ _ | refine blk_drew ?_ | refine blk_alloc ?_ _)); refine blk_far ?_ NB144_153.out _; (with_reducible repeat (first | refine blk_drewN ?_ _ | refine blk_drew ?_ | refine blk_alloc ?_ _)); refine blk_far ?_ NB144_153.out _; (with_reducible repeat (first | refine blk_drewN ?_ _ | refine blk_drew ?_ | refine blk_alloc ?_ _)); refine blk_far ?_ NB144_153.out _; (with_reducible repeat (first | refine blk_drewN ?_ _ | refine blk_drew ?_ | refine blk_alloc ?_ _)); refine blk_far ?_ NB144_153.out _; (with_reducible repeat (first | refine blk_drewN ?_ _ | refine blk_drew ?_ | refine blk_alloc ?_ _)); refine blk_far ?_ NB144_153.out _; (with_reducible repeat (first | refine blk_drewN ?_ _ | refine blk_drew ?_ | refine blk_alloc ?_ _)); refine blk_far ?_ NB144_153.out _; (with_reducible repeat (first | refine blk_drewN ?_ _ | refine blk_drew ?_ | refine blk_alloc ?_ _)); refine blk_far ?_ NB144_153.out _; (with_reducible repeat (first | refine blk_drewN ?_ _ | refine blk_drew ?_ | refine blk_alloc ?_ _)); refine blk_far ?_ NB144_153.out _; (with_reducible repeat (first | refine blk_drewN ?_ _ | refine blk_drew ?_ | refine blk_alloc ?_ _)); exact BK144.out⟩, ⟨by (with_reducible repeat (first | refine blk_drewN ?_ _ | refine blk_drew ?_ | refine blk_alloc ?_ _)); refine blk_put (cs := #[.int .i64 t156, .int .i64 t157, .int .i64 t158, .int .i64 t159, .int .i64 t160, .int .i64 t161, .int .i64 t162, .string x154007_1]) ?_ 7 _ rfl; (with_reducible repeat (first | refine blk_drewN ?_ _ | refine blk_drew ?_ | refine blk_alloc ?_ _)); refine blk_put (cs := #[.int .i64 t156, .int .i64 t157, .int .i64 t158, .int .i64 t159, .int .i64 t160, .int .i64 t161, .int .i64 x154006_1, .string x154007_1]) ?_ 6 _ rfl; (with_reducible repeat (first | refine blk_drewN ?_ _ | refine blk_drew ?_ | refine blk_alloc ?_ _)); refine blk_put (cs := #[.int .i64 t156, .int .i64 t157, .int .i64 t158, .int .i64 t159, .int .i64 t160, .int .i64 x154005_1, .int .i64 x154006_1, .string x154007_1]) ?_ 5 _ rfl; (with_reducible repeat (first | refine blk_drewN ?_ _ | refine blk_drew ?_ | refine blk_alloc ?_ _)); refine blk_put (cs := #[.int .i64 t156, .int .i64 t157, .int .i64 t158, .int .i64 t159, .int .i64 x154004_1, .int .i64 x154005_1, .int .i64 x154006_1, .string x154007_1]) ?_ 4 _ rfl; (with_reducible repeat (first | refine blk_drewN ?_ _ | refine blk_drew ?_ | refine blk_alloc ?_ _)); refine blk_put (cs := #[.int .i64 t156, .int .i64 t157, .int .i64 t158, .int .i64 x154003_1, .int .i64 x154004_1, .int .i64 x154005_1, .int .i64 x154006_1, .string x154007_1]) ?_ 3 _ rfl; (with_reducible repeat (first | refine blk_drewN ?_ _ | refine blk_drew ?_ | refine blk_alloc ?_ _)); refine blk_put (cs := #[.int .i64 t156, .int .i64 t157, .int .i64 x154002_1, .int .i64 x154003_1, .int .i64 x154004_1, .int .i64 x154005_1, .int .i64 x154006_1, .string x154007_1]) ?_ 2 _ rfl; (with_reducible repeat (first | refine blk_drewN ?_ _ | refine blk_drew ?_ | refine blk_alloc ?_ _)); refine blk_put (cs := #[.int .i64 t156, .int .i64 x154001_1, .int .i64 x154002_1, .int .i64 x154003_1, .int .i64 x154004_1, .int .i64 x154005_1, .int .i64 x154006_1, .string x154007_1]) ?_ 1 _ rfl; (with_reducible repeat (first | refine blk_drewN ?_ _ | refine blk_drew ?_ | refine blk_alloc ?_ _)); refine blk_put (cs := #[.int .i64 x154000_1, .int .i64 x154001_1, .int .i64 x154002_1, .int .i64 x154003_1, .int .i64 x154004_1, .int .i64 x154005_1, .int .i64 x154006_1, .string x154007_1]) ?_ 0 _ rfl; (with_reducible repeat (first | refine blk_drewN ?_ _ | refine blk_drew ?_ | refine blk_alloc ?_ _)); exact BK153.out⟩, ⟨by repeat (first | (with_reducible first | exact HB.out | apply below_alloc | apply pw_below_drewN | apply below_drew1 | refine below_set ?_ GE144.out | refine below_set ?_ GE153.out | refine below_set ?_ GE155.out | refine below_set ?_ GE167.out) | exact HB.out)⟩⟩
      ·rw [if_neg c14] at H
       exact absurd H (by simp)
     ·rw [if_neg c12] at H
      exact absurd H (by simp)
    ·rw [if_neg c11] at H
     exact absurd H (by simp)
   ·rw [if_neg c10] at H
    have c10b0 : decide (x15_1 < (l1.length : Int)) = false := decide_eq_false c10
    clear c10
    replace H := Option.bind_eq_some_iff.mp H
    obtain ⟨t171, A400, H⟩ := H
    replace H : (if x6_1.length + t171.length < 2199023255552 then (some (x6_1 ++ t171)) else (none)) = some r := H
    have A40 := Aside0.mk A400
    clear A400
    by_cases c41 : x6_1.length + t171.length < 2199023255552
    ·rw [if_pos c41] at H
     have LMc41 := Aside0.mk c41
     clear c41
     obtain ⟨y174, hy174⟩ : ∃ y_ : List (S27), y_ = (x6_1 ++ t171) := ⟨_, rfl⟩
     replace H : (some y174) = some r := by first | (rw [hy174]; with_reducible exact H) | (have H2_ := (Option.bind_some _ _).symm.trans H; rw [hy174]; with_reducible exact H2_) | (have H2_ := (Option.bind_some _ _).symm.trans H; with_reducible exact H2_) | with_reducible exact H | (rw [hy174]; exact H) | exact H
     have Ny174 := Aside0.mk hy174
     clear hy174
     obtain rfl := Option.some.inj H
     have hnb42 := NB144_153.out
     have hnc42 := NB153_144.out
     have hcz43_0 : wr.cell? ⟨gb144, 0, none⟩ = some (.int .i64 a0_0) := (blk_cell BK144.out 0).trans rfl
     have hcz43_1 : wr.cell? ⟨gb144, 1, none⟩ = some (.int .i64 a0_1) := (blk_cell BK144.out 1).trans rfl
     have hfz43_0 := blk_frozen BK144.out 0
     have hfz43_1 := blk_frozen BK144.out 1
     have hcz44_0 : wr.cell? ⟨gb153, 0, none⟩ = some (.int .i64 x154000_1) := (blk_cell BK153.out 0).trans rfl
     have hcz44_1 : wr.cell? ⟨gb153, 1, none⟩ = some (.int .i64 x154001_1) := (blk_cell BK153.out 1).trans rfl
     have hcz44_2 : wr.cell? ⟨gb153, 2, none⟩ = some (.int .i64 x154002_1) := (blk_cell BK153.out 2).trans rfl
     have hcz44_3 : wr.cell? ⟨gb153, 3, none⟩ = some (.int .i64 x154003_1) := (blk_cell BK153.out 3).trans rfl
     have hcz44_4 : wr.cell? ⟨gb153, 4, none⟩ = some (.int .i64 x154004_1) := (blk_cell BK153.out 4).trans rfl
     have hcz44_5 : wr.cell? ⟨gb153, 5, none⟩ = some (.int .i64 x154005_1) := (blk_cell BK153.out 5).trans rfl
     have hcz44_6 : wr.cell? ⟨gb153, 6, none⟩ = some (.int .i64 x154006_1) := (blk_cell BK153.out 6).trans rfl
     have hcz44_7 : wr.cell? ⟨gb153, 7, none⟩ = some (.string x154007_1) := (blk_cell BK153.out 7).trans rfl
     have hfz44_0 := blk_frozen BK153.out 0
     have hfz44_1 := blk_frozen BK153.out 1
     have hfz44_2 := blk_frozen BK153.out 2
     have hfz44_3 := blk_frozen BK153.out 3
     have hfz44_4 := blk_frozen BK153.out 4
     have hfz44_5 := blk_frozen BK153.out 5
     have hfz44_6 := blk_frozen BK153.out 6
     have hfz44_7 := blk_frozen BK153.out 7
     go_wp2_with (first | ((with_reducible refine gate_callee (f := 15) rfl ?_); refine goesL_ (some 34) rfl rfl Try.func15 (by kernel_rfl) rfl #[.agg #[.int .i64 a0_0, .int .i64 a0_1], .agg #[.int .i64 x154000_1, .int .i64 x154001_1, .int .i64 x154002_1, .int .i64 x154003_1, .int .i64 x154004_1, .int .i64 x154005_1, .int .i64 x154006_1, .string x154007_1]] rfl (by (try simp only [List.map_toArray, List.map_cons, List.map_nil]); first | done | rfl | (simp only [List.length_drop, List.length_take]; rfl)) ?_; (with_reducible refine (scramble_End.calls a0_0 a0_1 x154000_1 x154001_1 x154002_1 x154003_1 x154004_1 x154005_1 x154006_1 x154007_1 t171 _ A40.out).mono ?_); rintro e w45 ⟨v172, rfl, ho0, hb⟩; refine ⟨_, rfl, ?_⟩; have n0_ := Aside0.mk (Kd.R_elder' (rkw HO_6.out) (Kd.R_base ho0) hb); have n1_ := Aside0.mk (Kd.R_lower (Kd.R_new' ho0 (Kd.R_lt (rkw HO_6.out))) (below_size (hbw HB.out))); have n2_ := Aside0.mk (blkb BK144.out hb); have n3_ := Aside0.mk (blkb BK153.out hb); have n4_ := Aside0.mk (below_step (hbw HB.out) hb); clear HO_6; clear BK144; clear BK153; clear HB; have HO_6 := n0_; have HO173 := n1_; have BK144 := n2_; have BK153 := n3_; have HB := n4_; clear n0_ n1_ n2_ n3_ n4_; (try clear hb); (try clear hb2); (try clear hk); (try clear hi); (try clear ho0); obtain ⟨Ao47, co47, eo47⟩ := Kd.R_slice HO173.out; subst eo47) | ((with_reducible refine gate_builtin (b := .append) (xs := #[.tmp 31, .tmp 34]) rfl ?_); at_builtin; refine Kd.R_append_rows k27 (w0 := w) w.heap.size rfl (.tmp 31) (.tmp 34) 31 27 (.agg #[(.int .i64 0), (.int .i64 0), (.int .i64 0), (.int .i64 0), (.int .i64 0), (.string ⟨#[]⟩), (.int .i64 0)]) 64 rfl Try.underlying31 info27 rfl (by decide) (by omega) u6 x6_1 t171 _ _ _ (fun k_ => some k_ ≠ (.slice Ao47 t171.length co47 : Value).ownBlock) (fun _ => False) rfl rfl ?aO ?aR (fun _ _ h => h) (fun _ h => h.elim) ?aF ?aB ?aS ?aL ?_; (case aR => repeat (first | exact (Kd.R_reads' HO173.out).2.2 | (with_reducible refine Kd.C_alloc ?_ _) | (with_reducible refine Kd.C_drewN ?_ _) | (with_reducible refine Kd.C_drew ?_))); (case aB => exact (hbw HB.out)); (case aF => exact (fun k_ hk => Kd.fresh' (Kd.R_lt (rkw HO173.out)) k_ hk)); (case aO => exact (by (with_reducible repeat (first | apply Kd.R_alloc | apply Kd.R_drewN | apply Kd.R_drew)); exact Kd.R_mono HO_6.out (fun _ hk => hk.2))); (case aS => exact (below_size (hbw HB.out))); (case aL => have := LMc41.out; omega); intro v175 w46 ho hb hg hat; rw [← Ny174.out] at ho; have n0_ := Aside0.mk (blkg BK144.out hg (Kd.R_ne HO_6.out BK144.out (by decide))); have n1_ := Aside0.mk (blkg BK153.out hg (Kd.R_ne HO_6.out BK153.out (by decide))); have n2_ := Aside0.mk (Kd.R_after (ok := (fun _ => True)) (rkw HO173.out) hg hat); have n3_ := Aside0.mk (hb); have n4_ := Aside0.mk (ho); clear BK144; clear BK153; clear HO173; clear HB; clear HO_6; have BK144 := n0_; have BK153 := n1_; have HO173 := n2_; have HB := n3_; have HO176 := n4_; clear n0_ n1_ n2_ n3_ n4_; clear ho hb hg hat))
     go_ret
     exact ⟨_, by first | rfl | (simp [errW_none, errW_some] <;> rfl) | (simp [*, errW_none, errW_some] <;> rfl), by (with_reducible repeat (first | apply Kd.R_alloc | apply Kd.R_drewN | apply Kd.R_drew)); exact Kd.R_mono HO176.out (fun _ hk => trivial), by repeat (first | (with_reducible first | exact HB.out | apply below_alloc | apply pw_below_drewN | apply below_drew1 | refine below_set ?_ GE144.out | refine below_set ?_ GE153.out) | exact HB.out)⟩
    ·rw [if_neg c41] at H
     exact absurd H (by simp)

/-! ### signalbenchref07_Same: function 19 -/
mutual
def signalbenchref07_Same.j0 : Nat → List (S27) → List (S27) → Option (Bool)
 | 0, _, _ => none
 | k + 1, x0, x1 => signalbenchref07_Same.l0 k x0 x1 0
def signalbenchref07_Same.l0 : Nat → List (S27) → List (S27) → Int → Option (Bool)
 | 0, _, _, _ => none
 | k + 1, x0, x1, x5 => if x5 < (x0.length : Int) then (if 0 ≤ x5 then (if x5 < (x1.length : Int) then (if (!(((rd_T27 x0 x5).f0) == ((rd_T27 x1 x5).f0)) || (!(((rd_T27 x0 x5).f1) == ((rd_T27 x1 x5).f1)) || (!(((rd_T27 x0 x5).f2) == ((rd_T27 x1 x5).f2)) || (!(((rd_T27 x0 x5).f3) == ((rd_T27 x1 x5).f3)) || (!(((rd_T27 x0 x5).f4) == ((rd_T27 x1 x5).f4)) || (!((((rd_T27 x0 x5).f5).toList) == (((rd_T27 x1 x5).f5).toList)) || (!(((rd_T27 x0 x5).f6) == ((rd_T27 x1 x5).f6))))))))) = true then (some false) else (signalbenchref07_Same.l0 k x0 x1 (wrap64 (x5 + 1)))) else (none)) else (none)) else (some true)
end
def signalbenchref07_Same.f (k : Nat) (l0 : List (S27)) (l1 : List (S27)) : Option (Bool) := if (l0.length : Int) = (l1.length : Int) then (signalbenchref07_Same.j0 k l0 l1) else (some false)
theorem signalbenchref07_Same.mono_l : ∀ k, (∀ y0 y1, LeO (signalbenchref07_Same.j0 k y0 y1) (signalbenchref07_Same.j0 (k + 1) y0 y1)) ∧ (∀ y0 y1 y2, LeO (signalbenchref07_Same.l0 k y0 y1 y2) (signalbenchref07_Same.l0 (k + 1) y0 y1 y2))
 | 0 => ⟨fun _ _ r h => by simp [signalbenchref07_Same.j0] at h, fun _ _ _ r h => by simp [signalbenchref07_Same.l0] at h⟩
 | k + 1 => by
  obtain ⟨ih0, ih1⟩ := signalbenchref07_Same.mono_l k
  refine ⟨?_, ?_⟩
  ·intro y0 y1
   unfold signalbenchref07_Same.j0
   repeat' first
   | (with_reducible exact ih0 _ _)
   | (with_reducible exact ih1 _ _ _)
   | (with_reducible exact LeO.refl _)
   | (with_reducible exact LeO.none _)
   | (with_reducible refine LeO.ite ?_ ?_)
   | (with_reducible refine LeO.bind ?_ (fun _ => ?_))
   | exact ih0 _ _
   | exact ih1 _ _ _
   | exact LeO.none _
   | refine LeO.ite ?_ ?_
   | refine LeO.bind ?_ (fun _ => ?_)
  ·intro y0 y1 y2
   unfold signalbenchref07_Same.l0
   repeat' first
   | (with_reducible exact ih0 _ _)
   | (with_reducible exact ih1 _ _ _)
   | (with_reducible exact LeO.refl _)
   | (with_reducible exact LeO.none _)
   | (with_reducible refine LeO.ite ?_ ?_)
   | (with_reducible refine LeO.bind ?_ (fun _ => ?_))
   | exact ih0 _ _
   | exact ih1 _ _ _
   | exact LeO.none _
   | refine LeO.ite ?_ ?_
   | refine LeO.bind ?_ (fun _ => ?_)
theorem signalbenchref07_Same.mono : ∀ a0 a1 k, LeO (signalbenchref07_Same.f k a0 a1) (signalbenchref07_Same.f (k + 1) a0 a1) := by
 intro a0 a1 k
 obtain ⟨ih0, ih1⟩ := signalbenchref07_Same.mono_l k
 unfold signalbenchref07_Same.f
 repeat' first
   | (with_reducible exact ih0 _ _)
   | (with_reducible exact ih1 _ _ _)
   | (with_reducible exact LeO.refl _)
   | (with_reducible exact LeO.none _)
   | (with_reducible refine LeO.ite ?_ ?_)
   | (with_reducible refine LeO.bind ?_ (fun _ => ?_))
   | exact ih0 _ _
   | exact ih1 _ _ _
   | exact LeO.none _
   | refine LeO.ite ?_ ?_
   | refine LeO.bind ?_ (fun _ => ?_)
set_option maxHeartbeats 8000000 in
set_option maxRecDepth 100000 in
theorem signalbenchref07_Same.calls (k : Nat) (A0 : Option Addr) (c0 : Nat) (l0 : List (S27)) (A1 : Option Addr) (c1 : Nat) (l1 : List (S27)) (r : Bool) (w : World) (hr0 : Kd.C k27 w A0 l0.length l0) (hc0 : l0.length ≤ c0) (hr1 : Kd.C k27 w A1 l1.length l1) (hc1 : l1.length ≤ c1) (h : signalbenchref07_Same.f k l0 l1 = some r) :
  Calls Try.prog 19 #[.slice A0 l0.length c0, .slice A1 l1.length c1] w fun e w' => e = .returned (.bool r) ∧ Drawn0 w w' := by
 have hu27 := Try.underlying27
 have HR0 := Aside0.mk hr0
 have HC0 := Aside0.mk hc0
 clear hr0 hc0
 have HR1 := Aside0.mk hr1
 have HC1 := Aside0.mk hc1
 clear hr1 hc1
 have H : (if (l0.length : Int) = (l1.length : Int) then (signalbenchref07_Same.j0 k l0 l1) else (some false)) = some r := h
 clear h
 have HC3 := Aside0.mk H
 clear H
 go_enter Try.func19, Try.ntmps19
 go_upto_if 10 with (fail)
 repeat (go_quiet (fail); go_upto_if 10 with (fail))
 go_cut [] (fun wc => ∃ (kq : Nat), Aside0 (signalbenchref07_Same.j0 kq l0 l1 = some r) ∧ Aside0 (kq ≤ k) ∧ Drawn0 w wc)
 case first =>
  have H := HC3.out
  clear HC3
  by_cases c4 : (l0.length : Int) = (l1.length : Int)
  ·rw [if_pos c4] at H
   have c4b0 : ((l0.length : Int) == (l1.length : Int)) = true := beq_iff_eq.mpr c4
   have c4b1 : ((l0.length : Int) != (l1.length : Int)) = false := bne_eq_false_iff_eq.mpr c4
   have c4b2 : (l0.length == l1.length) = true := by first | simpa using c4 | (simp at c4 ⊢; omega)
   clear c4
   (first | rw [c4b0] | (simp only [i64_w, i32_w]; rw [c4b0]) | skip)
   have H' := Aside0.mk H
   clear H
   go_wp2
   repeat (go_quiet (fail); try go_wp2)
   go_meet
   case rel => exact ⟨_, H', ⟨by first | omega | exact Nat.le_refl _⟩, by repeat (first | exact Drawn0.refl _ | apply Drawn0.step)⟩
  ·rw [if_neg c4] at H
   have c4b0 : ((l0.length : Int) == (l1.length : Int)) = false := beq_eq_false_iff_ne.mpr c4
   have c4b1 : ((l0.length : Int) != (l1.length : Int)) = true := bne_iff_ne.mpr c4
   have c4b2 : (l0.length == l1.length) = false := by first | simpa using c4 | (simp at c4 ⊢; omega)
   (first | rw [c4b0] | (simp only [i64_w, i32_w]; rw [c4b0]) | skip)
   obtain rfl := Option.some.inj H
   go_wp2
   repeat (go_quiet (fail); try go_wp2)
   go_ret
   exact ⟨by first | rfl | (simp; done) | (simp [*]; done), by repeat (first | exact Drawn0.refl _ | apply Drawn0.step)⟩
 case rest =>
  clear HC3
  try clear c1
  try clear p2
  try clear c4
  try clear c4b0
  try clear c4b1
  try clear c4b2
  obtain ⟨kq, HA, HJ2, ⟨mc2, rfl⟩⟩ := hcut
  cases kq with
  | zero => exact absurd HA.out (by simp [signalbenchref07_Same.j0])
  | succ kj2 =>
   have H := HA.out
   clear HA
   simp only [signalbenchref07_Same.j0] at H
   have H' := Aside0.mk H
   clear H
   go_wp2
   repeat (go_quiet (fail); try go_wp2)
   go_loopg [5] kj2 (fun kq v5 w' => ∃ (x5_2 : Int), v5 = .int .i64 x5_2 ∧ Aside0 (signalbenchref07_Same.l0 kq l0 l1 x5_2 = some r) ∧ Aside0 (kq ≤ kj2) ∧ Drawn0 w w')
   case atStart => exact ⟨(0), (by first | rfl | (simp; done) | (simp [*]; done)), H', ⟨Nat.le_refl _⟩, by repeat (first | exact Drawn0.refl _ | apply Drawn0.step)⟩
   case round =>
    clear H'
    try clear c1
    try clear c2
    try clear p2
    try clear c4
    try clear c4b0
    try clear c4b1
    try clear c4b2
    try clear p2
    obtain ⟨x5_2, rfl, HA, HK2, ⟨m2, rfl⟩⟩ := hrel
    cases gk with
    | zero => exact absurd HA.out (by simp [signalbenchref07_Same.l0])
    | succ k2 =>
     have H := HA.out
     clear HA
     simp only [signalbenchref07_Same.l0] at H
     by_cases c5 : x5_2 < (l0.length : Int)
     ·rw [if_pos c5] at H
      have c5b0 : decide (x5_2 < (l0.length : Int)) = true := decide_eq_true c5
      clear c5
      by_cases c6 : 0 ≤ x5_2
      ·rw [if_pos c6] at H
       have c6b0 : decide (0 ≤ x5_2) = true := decide_eq_true c6
       clear c6
       by_cases c7 : x5_2 < (l1.length : Int)
       ·rw [if_pos c7] at H
        have c7b0 : decide (x5_2 < (l1.length : Int)) = true := decide_eq_true c7
        clear c7
        by_cases c8 : (!(((rd_T27 l0 x5_2).f0) == ((rd_T27 l1 x5_2).f0)) || (!(((rd_T27 l0 x5_2).f1) == ((rd_T27 l1 x5_2).f1)) || (!(((rd_T27 l0 x5_2).f2) == ((rd_T27 l1 x5_2).f2)) || (!(((rd_T27 l0 x5_2).f3) == ((rd_T27 l1 x5_2).f3)) || (!(((rd_T27 l0 x5_2).f4) == ((rd_T27 l1 x5_2).f4)) || (!((((rd_T27 l0 x5_2).f5).toList) == (((rd_T27 l1 x5_2).f5).toList)) || (!(((rd_T27 l0 x5_2).f6) == ((rd_T27 l1 x5_2).f6))))))))) = true
        ·rw [if_pos c8] at H
         have c8b0 : (!(((rd_T27 l0 x5_2).f0) == ((rd_T27 l1 x5_2).f0)) || (!(((rd_T27 l0 x5_2).f1) == ((rd_T27 l1 x5_2).f1)) || (!(((rd_T27 l0 x5_2).f2) == ((rd_T27 l1 x5_2).f2)) || (!(((rd_T27 l0 x5_2).f3) == ((rd_T27 l1 x5_2).f3)) || (!(((rd_T27 l0 x5_2).f4) == ((rd_T27 l1 x5_2).f4)) || (!((((rd_T27 l0 x5_2).f5).toList) == (((rd_T27 l1 x5_2).f5).toList)) || (!(((rd_T27 l0 x5_2).f6) == ((rd_T27 l1 x5_2).f6))))))))) = true := c8
         clear c8
         obtain rfl := Option.some.inj H
         have p177 : 0 ≤ (x5_2 : Int) := of_decide_eq_true (by first | (with_reducible assumption) | assumption)
         have q177 : x5_2 < (l0.length : Int) := of_decide_eq_true (by first | (with_reducible assumption) | assumption)
         obtain ⟨ad177, e177, hx177_0, hx177_1, hx177_2, hx177_3, hx177_4, hx177_5, hx177_6⟩ := at_T27 HR0.out x5_2 p177 q177
         cases e177
         replace p177 := eq_true p177
         replace q177 := eq_true q177
         have p178 : 0 ≤ (x5_2 : Int) := of_decide_eq_true (by first | (with_reducible assumption) | assumption)
         have q178 : x5_2 < (l1.length : Int) := of_decide_eq_true (by first | (with_reducible assumption) | assumption)
         obtain ⟨ad178, e178, hx178_0, hx178_1, hx178_2, hx178_3, hx178_4, hx178_5, hx178_6⟩ := at_T27 HR1.out x5_2 p178 q178
         cases e178
         replace p178 := eq_true p178
         replace q178 := eq_true q178
         go_wp2
         repeat (go_quiet (fail); try go_wp2)
         go_ret
         exact ⟨by first | rfl | (simp; done) | (simp [*]; done), by repeat (first | exact Drawn0.refl _ | apply Drawn0.step)⟩
        ·rw [if_neg c8] at H
         have c8b0 : (!(((rd_T27 l0 x5_2).f0) == ((rd_T27 l1 x5_2).f0)) || (!(((rd_T27 l0 x5_2).f1) == ((rd_T27 l1 x5_2).f1)) || (!(((rd_T27 l0 x5_2).f2) == ((rd_T27 l1 x5_2).f2)) || (!(((rd_T27 l0 x5_2).f3) == ((rd_T27 l1 x5_2).f3)) || (!(((rd_T27 l0 x5_2).f4) == ((rd_T27 l1 x5_2).f4)) || (!((((rd_T27 l0 x5_2).f5).toList) == (((rd_T27 l1 x5_2).f5).toList)) || (!(((rd_T27 l0 x5_2).f6) == ((rd_T27 l1 x5_2).f6))))))))) = false := by simpa using c8
         clear c8
         have H' := Aside0.mk H
         clear H
         have p177 : 0 ≤ (x5_2 : Int) := of_decide_eq_true (by first | (with_reducible assumption) | assumption)
         have q177 : x5_2 < (l0.length : Int) := of_decide_eq_true (by first | (with_reducible assumption) | assumption)
         obtain ⟨ad177, e177, hx177_0, hx177_1, hx177_2, hx177_3, hx177_4, hx177_5, hx177_6⟩ := at_T27 HR0.out x5_2 p177 q177
         cases e177
         replace p177 := eq_true p177
         replace q177 := eq_true q177
         have p178 : 0 ≤ (x5_2 : Int) := of_decide_eq_true (by first | (with_reducible assumption) | assumption)
         have q178 : x5_2 < (l1.length : Int) := of_decide_eq_true (by first | (with_reducible assumption) | assumption)
         obtain ⟨ad178, e178, hx178_0, hx178_1, hx178_2, hx178_3, hx178_4, hx178_5, hx178_6⟩ := at_T27 HR1.out x5_2 p178 q178
         cases e178
         replace p178 := eq_true p178
         replace q178 := eq_true q178
         go_wp2
         repeat (go_quiet (fail); try go_wp2)
         go_roundg k2
         case measure => have := HJ2.out; have := HK2.out; omega
         case rel => exact ⟨(wrap64 (x5_2 + 1)), (by first | rfl | (simp; done) | (simp [*]; done)), H', ⟨by have := HJ2.out; have := HK2.out; omega⟩, by repeat (first | exact Drawn0.refl _ | apply Drawn0.step)⟩
       ·rw [if_neg c7] at H
        exact absurd H (by simp)
      ·rw [if_neg c6] at H
       exact absurd H (by simp)
     ·rw [if_neg c5] at H
      have c5b0 : decide (x5_2 < (l0.length : Int)) = false := decide_eq_false c5
      clear c5
      obtain rfl := Option.some.inj H
      go_wp2
      repeat (go_quiet (fail); try go_wp2)
      go_ret
      exact ⟨by first | rfl | (simp; done) | (simp [*]; done), by repeat (first | exact Drawn0.refl _ | apply Drawn0.step)⟩

/-! ### signalbenchref20_Same: function 22 -/
mutual
def signalbenchref20_Same.j0 : Nat → List (S46) → List (S46) → Option (Bool)
 | 0, _, _ => none
 | k + 1, x0, x1 => signalbenchref20_Same.l0 k x0 x1 0
def signalbenchref20_Same.l0 : Nat → List (S46) → List (S46) → Int → Option (Bool)
 | 0, _, _, _ => none
 | k + 1, x0, x1, x5 => if x5 < (x0.length : Int) then (if 0 ≤ x5 then (if x5 < (x1.length : Int) then (if (!(((rd_T46 x0 x5).f0) == ((rd_T46 x1 x5).f0)) || (!(((rd_T46 x0 x5).f1) == ((rd_T46 x1 x5).f1)) || (!(((rd_T46 x0 x5).f2) == ((rd_T46 x1 x5).f2)) || (!((((rd_T46 x0 x5).f3).toList) == (((rd_T46 x1 x5).f3).toList)) || (!(((rd_T46 x0 x5).f4) == ((rd_T46 x1 x5).f4))))))) = true then (some false) else (signalbenchref20_Same.l0 k x0 x1 (wrap64 (x5 + 1)))) else (none)) else (none)) else (some true)
end
def signalbenchref20_Same.f (k : Nat) (l0 : List (S46)) (l1 : List (S46)) : Option (Bool) := if (l0.length : Int) = (l1.length : Int) then (signalbenchref20_Same.j0 k l0 l1) else (some false)
theorem signalbenchref20_Same.mono_l : ∀ k, (∀ y0 y1, LeO (signalbenchref20_Same.j0 k y0 y1) (signalbenchref20_Same.j0 (k + 1) y0 y1)) ∧ (∀ y0 y1 y2, LeO (signalbenchref20_Same.l0 k y0 y1 y2) (signalbenchref20_Same.l0 (k + 1) y0 y1 y2))
 | 0 => ⟨fun _ _ r h => by simp [signalbenchref20_Same.j0] at h, fun _ _ _ r h => by simp [signalbenchref20_Same.l0] at h⟩
 | k + 1 => by
  obtain ⟨ih0, ih1⟩ := signalbenchref20_Same.mono_l k
  refine ⟨?_, ?_⟩
  ·intro y0 y1
   unfold signalbenchref20_Same.j0
   repeat' first
   | (with_reducible exact ih0 _ _)
   | (with_reducible exact ih1 _ _ _)
   | (with_reducible exact LeO.refl _)
   | (with_reducible exact LeO.none _)
   | (with_reducible refine LeO.ite ?_ ?_)
   | (with_reducible refine LeO.bind ?_ (fun _ => ?_))
   | exact ih0 _ _
   | exact ih1 _ _ _
   | exact LeO.none _
   | refine LeO.ite ?_ ?_
   | refine LeO.bind ?_ (fun _ => ?_)
  ·intro y0 y1 y2
   unfold signalbenchref20_Same.l0
   repeat' first
   | (with_reducible exact ih0 _ _)
   | (with_reducible exact ih1 _ _ _)
   | (with_reducible exact LeO.refl _)
   | (with_reducible exact LeO.none _)
   | (with_reducible refine LeO.ite ?_ ?_)
   | (with_reducible refine LeO.bind ?_ (fun _ => ?_))
   | exact ih0 _ _
   | exact ih1 _ _ _
   | exact LeO.none _
   | refine LeO.ite ?_ ?_
   | refine LeO.bind ?_ (fun _ => ?_)
theorem signalbenchref20_Same.mono : ∀ a0 a1 k, LeO (signalbenchref20_Same.f k a0 a1) (signalbenchref20_Same.f (k + 1) a0 a1) := by
 intro a0 a1 k
 obtain ⟨ih0, ih1⟩ := signalbenchref20_Same.mono_l k
 unfold signalbenchref20_Same.f
 repeat' first
   | (with_reducible exact ih0 _ _)
   | (with_reducible exact ih1 _ _ _)
   | (with_reducible exact LeO.refl _)
   | (with_reducible exact LeO.none _)
   | (with_reducible refine LeO.ite ?_ ?_)
   | (with_reducible refine LeO.bind ?_ (fun _ => ?_))
   | exact ih0 _ _
   | exact ih1 _ _ _
   | exact LeO.none _
   | refine LeO.ite ?_ ?_
   | refine LeO.bind ?_ (fun _ => ?_)
set_option maxHeartbeats 8000000 in
set_option maxRecDepth 100000 in
theorem signalbenchref20_Same.calls (k : Nat) (A0 : Option Addr) (c0 : Nat) (l0 : List (S46)) (A1 : Option Addr) (c1 : Nat) (l1 : List (S46)) (r : Bool) (w : World) (hr0 : Kd.C k46 w A0 l0.length l0) (hc0 : l0.length ≤ c0) (hr1 : Kd.C k46 w A1 l1.length l1) (hc1 : l1.length ≤ c1) (h : signalbenchref20_Same.f k l0 l1 = some r) :
  Calls Try.prog 22 #[.slice A0 l0.length c0, .slice A1 l1.length c1] w fun e w' => e = .returned (.bool r) ∧ Drawn0 w w' := by
 have hu46 := Try.underlying46
 have HR0 := Aside0.mk hr0
 have HC0 := Aside0.mk hc0
 clear hr0 hc0
 have HR1 := Aside0.mk hr1
 have HC1 := Aside0.mk hc1
 clear hr1 hc1
 have H : (if (l0.length : Int) = (l1.length : Int) then (signalbenchref20_Same.j0 k l0 l1) else (some false)) = some r := h
 clear h
 have HC3 := Aside0.mk H
 clear H
 go_enter Try.func22, Try.ntmps22
 go_upto_if 10 with (fail)
 repeat (go_quiet (fail); go_upto_if 10 with (fail))
 go_cut [] (fun wc => ∃ (kq : Nat), Aside0 (signalbenchref20_Same.j0 kq l0 l1 = some r) ∧ Aside0 (kq ≤ k) ∧ Drawn0 w wc)
 case first =>
  have H := HC3.out
  clear HC3
  by_cases c4 : (l0.length : Int) = (l1.length : Int)
  ·rw [if_pos c4] at H
   have c4b0 : ((l0.length : Int) == (l1.length : Int)) = true := beq_iff_eq.mpr c4
   have c4b1 : ((l0.length : Int) != (l1.length : Int)) = false := bne_eq_false_iff_eq.mpr c4
   have c4b2 : (l0.length == l1.length) = true := by first | simpa using c4 | (simp at c4 ⊢; omega)
   clear c4
   (first | rw [c4b0] | (simp only [i64_w, i32_w]; rw [c4b0]) | skip)
   have H' := Aside0.mk H
   clear H
   go_wp2
   repeat (go_quiet (fail); try go_wp2)
   go_meet
   case rel => exact ⟨_, H', ⟨by first | omega | exact Nat.le_refl _⟩, by repeat (first | exact Drawn0.refl _ | apply Drawn0.step)⟩
  ·rw [if_neg c4] at H
   have c4b0 : ((l0.length : Int) == (l1.length : Int)) = false := beq_eq_false_iff_ne.mpr c4
   have c4b1 : ((l0.length : Int) != (l1.length : Int)) = true := bne_iff_ne.mpr c4
   have c4b2 : (l0.length == l1.length) = false := by first | simpa using c4 | (simp at c4 ⊢; omega)
   (first | rw [c4b0] | (simp only [i64_w, i32_w]; rw [c4b0]) | skip)
   obtain rfl := Option.some.inj H
   go_wp2
   repeat (go_quiet (fail); try go_wp2)
   go_ret
   exact ⟨by first | rfl | (simp; done) | (simp [*]; done), by repeat (first | exact Drawn0.refl _ | apply Drawn0.step)⟩
 case rest =>
  clear HC3
  try clear c1
  try clear c2
  try clear p2
  try clear c4
  try clear c4b0
  try clear c4b1
  try clear c4b2
  obtain ⟨kq, HA, HJ2, ⟨mc2, rfl⟩⟩ := hcut
  cases kq with
  | zero => exact absurd HA.out (by simp [signalbenchref20_Same.j0])
  | succ kj2 =>
   have H := HA.out
   clear HA
   simp only [signalbenchref20_Same.j0] at H
   have H' := Aside0.mk H
   clear H
   go_wp2
   repeat (go_quiet (fail); try go_wp2)
   go_loopg [5] kj2 (fun kq v5 w' => ∃ (x5_2 : Int), v5 = .int .i64 x5_2 ∧ Aside0 (signalbenchref20_Same.l0 kq l0 l1 x5_2 = some r) ∧ Aside0 (kq ≤ kj2) ∧ Drawn0 w w')
   case atStart => exact ⟨(0), (by first | rfl | (simp; done) | (simp [*]; done)), H', ⟨Nat.le_refl _⟩, by repeat (first | exact Drawn0.refl _ | apply Drawn0.step)⟩
   case round =>
    clear H'
    try clear c1
    try clear c2
    try clear p2
    try clear c4
    try clear c4b0
    try clear c4b1
    try clear c4b2
    try clear p2
    obtain ⟨x5_2, rfl, HA, HK2, ⟨m2, rfl⟩⟩ := hrel
    cases gk with
    | zero => exact absurd HA.out (by simp [signalbenchref20_Same.l0])
    | succ k2 =>
     have H := HA.out
     clear HA
     simp only [signalbenchref20_Same.l0] at H
     by_cases c5 : x5_2 < (l0.length : Int)
     ·rw [if_pos c5] at H
      have c5b0 : decide (x5_2 < (l0.length : Int)) = true := decide_eq_true c5
      clear c5
      by_cases c6 : 0 ≤ x5_2
      ·rw [if_pos c6] at H
       have c6b0 : decide (0 ≤ x5_2) = true := decide_eq_true c6
       clear c6
       by_cases c7 : x5_2 < (l1.length : Int)
       ·rw [if_pos c7] at H
        have c7b0 : decide (x5_2 < (l1.length : Int)) = true := decide_eq_true c7
        clear c7
        by_cases c8 : (!(((rd_T46 l0 x5_2).f0) == ((rd_T46 l1 x5_2).f0)) || (!(((rd_T46 l0 x5_2).f1) == ((rd_T46 l1 x5_2).f1)) || (!(((rd_T46 l0 x5_2).f2) == ((rd_T46 l1 x5_2).f2)) || (!((((rd_T46 l0 x5_2).f3).toList) == (((rd_T46 l1 x5_2).f3).toList)) || (!(((rd_T46 l0 x5_2).f4) == ((rd_T46 l1 x5_2).f4))))))) = true
        ·rw [if_pos c8] at H
         have c8b0 : (!(((rd_T46 l0 x5_2).f0) == ((rd_T46 l1 x5_2).f0)) || (!(((rd_T46 l0 x5_2).f1) == ((rd_T46 l1 x5_2).f1)) || (!(((rd_T46 l0 x5_2).f2) == ((rd_T46 l1 x5_2).f2)) || (!((((rd_T46 l0 x5_2).f3).toList) == (((rd_T46 l1 x5_2).f3).toList)) || (!(((rd_T46 l0 x5_2).f4) == ((rd_T46 l1 x5_2).f4))))))) = true := c8
         clear c8
         obtain rfl := Option.some.inj H
         have p179 : 0 ≤ (x5_2 : Int) := of_decide_eq_true (by first | (with_reducible assumption) | assumption)
         have q179 : x5_2 < (l0.length : Int) := of_decide_eq_true (by first | (with_reducible assumption) | assumption)
         obtain ⟨ad179, e179, hx179_0, hx179_1, hx179_2, hx179_3, hx179_4⟩ := at_T46 HR0.out x5_2 p179 q179
         cases e179
         replace p179 := eq_true p179
         replace q179 := eq_true q179
         have p180 : 0 ≤ (x5_2 : Int) := of_decide_eq_true (by first | (with_reducible assumption) | assumption)
         have q180 : x5_2 < (l1.length : Int) := of_decide_eq_true (by first | (with_reducible assumption) | assumption)
         obtain ⟨ad180, e180, hx180_0, hx180_1, hx180_2, hx180_3, hx180_4⟩ := at_T46 HR1.out x5_2 p180 q180
         cases e180
         replace p180 := eq_true p180
         replace q180 := eq_true q180
         go_wp2
         repeat (go_quiet (fail); try go_wp2)
         go_ret
         exact ⟨by first | rfl | (simp; done) | (simp [*]; done), by repeat (first | exact Drawn0.refl _ | apply Drawn0.step)⟩
        ·rw [if_neg c8] at H
         have c8b0 : (!(((rd_T46 l0 x5_2).f0) == ((rd_T46 l1 x5_2).f0)) || (!(((rd_T46 l0 x5_2).f1) == ((rd_T46 l1 x5_2).f1)) || (!(((rd_T46 l0 x5_2).f2) == ((rd_T46 l1 x5_2).f2)) || (!((((rd_T46 l0 x5_2).f3).toList) == (((rd_T46 l1 x5_2).f3).toList)) || (!(((rd_T46 l0 x5_2).f4) == ((rd_T46 l1 x5_2).f4))))))) = false := by simpa using c8
         clear c8
         have H' := Aside0.mk H
         clear H
         have p179 : 0 ≤ (x5_2 : Int) := of_decide_eq_true (by first | (with_reducible assumption) | assumption)
         have q179 : x5_2 < (l0.length : Int) := of_decide_eq_true (by first | (with_reducible assumption) | assumption)
         obtain ⟨ad179, e179, hx179_0, hx179_1, hx179_2, hx179_3, hx179_4⟩ := at_T46 HR0.out x5_2 p179 q179
         cases e179
         replace p179 := eq_true p179
         replace q179 := eq_true q179
         have p180 : 0 ≤ (x5_2 : Int) := of_decide_eq_true (by first | (with_reducible assumption) | assumption)
         have q180 : x5_2 < (l1.length : Int) := of_decide_eq_true (by first | (with_reducible assumption) | assumption)
         obtain ⟨ad180, e180, hx180_0, hx180_1, hx180_2, hx180_3, hx180_4⟩ := at_T46 HR1.out x5_2 p180 q180
         cases e180
         replace p180 := eq_true p180
         replace q180 := eq_true q180
         go_wp2
         repeat (go_quiet (fail); try go_wp2)
         go_roundg k2
         case measure => have := HJ2.out; have := HK2.out; omega
         case rel => exact ⟨(wrap64 (x5_2 + 1)), (by first | rfl | (simp; done) | (simp [*]; done)), H', ⟨by have := HJ2.out; have := HK2.out; omega⟩, by repeat (first | exact Drawn0.refl _ | apply Drawn0.step)⟩
       ·rw [if_neg c7] at H
        exact absurd H (by simp)
      ·rw [if_neg c6] at H
       exact absurd H (by simp)
     ·rw [if_neg c5] at H
      have c5b0 : decide (x5_2 < (l0.length : Int)) = false := decide_eq_false c5
      clear c5
      obtain rfl := Option.some.inj H
      go_wp2
      repeat (go_quiet (fail); try go_wp2)
      go_ret
      exact ⟨by first | rfl | (simp; done) | (simp [*]; done), by repeat (first | exact Drawn0.refl _ | apply Drawn0.step)⟩

end Go.Proofs.Ytgcifmaefoeobaa.PScrambleRoundTrips
