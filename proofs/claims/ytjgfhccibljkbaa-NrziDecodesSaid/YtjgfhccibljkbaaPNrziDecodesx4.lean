-- Written by a program of this session (wip/tools/pr.py), which calls the kit's print with changes of its own.
import Derived.Test.YtjgfhccibljkbaaPNrziDecodesx0
import Derived.Test.YtjgfhccibljkbaaPNrziDecodesx2
import Derived.Test.YtjgfhccibljkbaaPNrziDecodesx3
namespace Go.Proofs.Ytjgfhccibljkbaa.PNrziDecodes
open Go.RowKit Go.Proofs.YtjgfhccibljkbaaW.PrintWords Go.Proofs.YtjgfhccibljkbaaW.PrintLast Go.Proofs.YtjgfhccibljkbaaW.PrintMore
attribute [local go_sem] max2_int min2_int max_two min_two max_three min_three max_four min_four   -- for this text's walks alone
set_option linter.unusedVariables false
set_option linter.unusedSimpArgs false

/-! ### nrzi_Decode: function 17 -/
def nrzi_Decode.l0 : Nat → List (S33) → List (S33) → Int → Int → Bool → Int → Int → Int → Int → Int → Int → Int → ByteArray → Option ((List (S33)))
 | 0, _, _, _, _, _, _, _, _, _, _, _, _, _ => none
 | k + 1, x6, x13, x14, x15, x122000, x131000, x131001, x131002, x131003, x131004, x131005, x131006, x131007 => if x15 < x14 then (if 0 ≤ x15 then (if x15 < (x13.length : Int) then ((nrzi_Step.f k x122000 x131000 x131001 x131002 x131003 x131004 x131005 x131006 x131007 ((rd_T33 x13 x15).f0) ((rd_T33 x13 x15).f1) ((rd_T33 x13 x15).f2) ((rd_T33 x13 x15).f3) ((rd_T33 x13 x15).f4) ((rd_T33 x13 x15).f5) ((rd_T33 x13 x15).f6)).bind fun bt133 => (if x6.length + bt133.2.2.2.2.2.2.2.2.length < 2199023255552 then (nrzi_Decode.l0 k (x6 ++ bt133.2.2.2.2.2.2.2.2) x13 x14 (wrap64 (x15 + 1)) x122000 bt133.1 bt133.2.1 bt133.2.2.1 bt133.2.2.2.1 bt133.2.2.2.2.1 bt133.2.2.2.2.2.1 bt133.2.2.2.2.2.2.1 bt133.2.2.2.2.2.2.2.1) else (none))) else (none)) else (none)) else ((nrzi_End.f x122000 x131000 x131001 x131002 x131003 x131004 x131005 x131006 x131007).bind fun t148 => (if x6.length + t148.length < 2199023255552 then (some (x6 ++ t148)) else (none)))
def nrzi_Decode.f (k : Nat) (a0_0 : Bool) (l1 : List (S33)) : Option ((List (S33))) := (nrzi_Start.f a0_0).bind fun bt122 => (nrzi_Decode.l0 k ([] : List (S33)) l1 (l1.length : Int) 0 a0_0 bt122.1 bt122.2.1 bt122.2.2.1 bt122.2.2.2.1 bt122.2.2.2.2.1 bt122.2.2.2.2.2.1 bt122.2.2.2.2.2.2.1 bt122.2.2.2.2.2.2.2)
theorem nrzi_Decode.mono_l : ∀ k, (∀ y0 y1 y2 y3 y4 y5 y6 y7 y8 y9 y10 y11 y12, LeO (nrzi_Decode.l0 k y0 y1 y2 y3 y4 y5 y6 y7 y8 y9 y10 y11 y12) (nrzi_Decode.l0 (k + 1) y0 y1 y2 y3 y4 y5 y6 y7 y8 y9 y10 y11 y12))
 | 0 => fun _ _ _ _ _ _ _ _ _ _ _ _ _ r h => by simp [nrzi_Decode.l0] at h
 | k + 1 => by
  have ih0 := nrzi_Decode.mono_l k
  ·intro y0 y1 y2 y3 y4 y5 y6 y7 y8 y9 y10 y11 y12
   unfold nrzi_Decode.l0
   repeat' first
   | (with_reducible exact ih0 _ _ _ _ _ _ _ _ _ _ _ _ _)
   | (with_reducible exact nrzi_Step.mono _ _ _ _ _ _ _ _ _ _ _ _ _ _ _ _ _)
   | (with_reducible exact LeO.refl _)
   | (with_reducible exact LeO.none _)
   | (with_reducible refine LeO.ite ?_ ?_)
   | (with_reducible refine LeO.bind ?_ (fun _ => ?_))
   | exact ih0 _ _ _ _ _ _ _ _ _ _ _ _ _
   | exact nrzi_Step.mono _ _ _ _ _ _ _ _ _ _ _ _ _ _ _ _ _
   | exact LeO.none _
   | refine LeO.ite ?_ ?_
   | refine LeO.bind ?_ (fun _ => ?_)
theorem nrzi_Decode.mono : ∀ a0 a1 k, LeO (nrzi_Decode.f k a0 a1) (nrzi_Decode.f (k + 1) a0 a1) := by
 intro a0 a1 k
 have ih0 := nrzi_Decode.mono_l k
 unfold nrzi_Decode.f
 repeat' first
   | (with_reducible exact ih0 _ _ _ _ _ _ _ _ _ _ _ _ _)
   | (with_reducible exact nrzi_Step.mono _ _ _ _ _ _ _ _ _ _ _ _ _ _ _ _ _)
   | (with_reducible exact LeO.refl _)
   | (with_reducible exact LeO.none _)
   | (with_reducible refine LeO.ite ?_ ?_)
   | (with_reducible refine LeO.bind ?_ (fun _ => ?_))
   | exact ih0 _ _ _ _ _ _ _ _ _ _ _ _ _
   | exact nrzi_Step.mono _ _ _ _ _ _ _ _ _ _ _ _ _ _ _ _ _
   | exact LeO.none _
   | refine LeO.ite ?_ ?_
   | refine LeO.bind ?_ (fun _ => ?_)
set_option maxHeartbeats 8000000 in
set_option maxRecDepth 100000 in
theorem nrzi_Decode.calls (k : Nat) (a0_0 : Bool) (A1 : Option Addr) (c1 : Nat) (l1 : List (S33)) (r : List (S33)) (w : World) (hr1 : Kd.C k33 w A1 l1.length l1) (hc1 : l1.length ≤ c1) (h : nrzi_Decode.f k a0_0 l1 = some r) :
  Calls Try.prog 17 #[.agg #[.bool a0_0], .slice A1 l1.length c1] w fun e w' => ∃ v0_ : Value, e = .returned (v0_) ∧ Kd.R k33 33 w' w.heap.size (fun _ => True) v0_ r ∧ Below w.heap.size w w' := by
 have hu23 := Try.underlying23; have hu28 := Try.underlying28; have hu33 := Try.underlying33; have HR1 := Aside0.mk hr1; have HC1 := Aside0.mk hc1; clear hr1 hc1; have HB := Aside0.mk (Below.refl w.heap.size w); have H : ((nrzi_Start.f a0_0).bind fun bt122 => (nrzi_Decode.l0 k ([] : List (S33)) l1 (l1.length : Int) 0 a0_0 bt122.1 bt122.2.1 bt122.2.2.1 bt122.2.2.2.1 bt122.2.2.2.2.1 bt122.2.2.2.2.2.1 bt122.2.2.2.2.2.2.1 bt122.2.2.2.2.2.2.2)) = some r := h; clear h; replace H := Option.bind_eq_some_iff.mp H; obtain ⟨⟨t122, t123, t124, t125, t126, t127, t128, t129⟩, A30, H⟩ := H; replace H : (nrzi_Decode.l0 k ([] : List (S33)) l1 (l1.length : Int) 0 a0_0 t122 t123 t124 t125 t126 t127 t128 t129) = some r := H; have A3 := Aside0.mk A30; clear A30; have H' := Aside0.mk H; clear H
 go_enter Try.func17, Try.ntmps17
 go_wp2_with (first | ((with_reducible refine gate_dst (N := 2) rfl ?_); refine box_event ?hg (N := 2) ?hd (cs := #[.bool a0_0]) (t := 23) ?hr ?_; (case hd => rfl); (case hg => rfl); (case hr => first | (go_simp; done) | (go_simp; rfl)); intro gb121 hg w4 hbox hb; have n0_ := Aside0.mk (below_step (hbw HB.out) hb); have n1_ := Aside0.mk (hbox); have n2_ := bsz HB hg; have n3_ := bsz HB hg; clear HB; have HB := n0_; have BK121 := n1_; have GW121 := n2_; have GE121 := n3_; clear n0_ n1_ n2_ n3_; clear hb hbox hg; have hcz5_0 : w4.cell? ⟨gb121, 0, none⟩ = some (.bool a0_0) := ck BK121 0; have hfz5_0 := blk_frozen BK121.out 0) | ((with_reducible refine gate_callee (f := 10) rfl ?_); refine goesL_ (some 12) rfl rfl Try.func10 (by kernel_rfl) rfl #[.agg #[.bool a0_0]] rfl (by (try simp only [List.map_toArray, List.map_cons, List.map_nil]); first | done | rfl | (simp only [List.length_drop, List.length_take]; rfl)) ?_; (with_reducible refine (nrzi_Start.calls a0_0 t122 t123 t124 t125 t126 t127 t128 t129 _ A3.out).mono ?_); rintro e w6 ⟨rfl, hb⟩; refine ⟨_, rfl, ?_⟩; have n0_ := Aside0.mk (blkb BK121.out hb); have n1_ := Aside0.mk (below_step (hbw HB.out) hb); clear BK121; clear HB; have BK121 := n0_; have HB := n1_; clear n0_ n1_; (try clear hb); (try clear hb2); (try clear hk); (try clear hi)) | ((with_reducible refine gate_dst (N := 5) rfl ?_); refine box_event ?hg (N := 5) ?hd (cs := #[.int .i64 0, .int .i64 0, .int .i64 0, .int .i64 0, .int .i64 0, .int .i64 0, .int .i64 0, .string (⟨#[]⟩ : ByteArray)]) (t := 28) ?hr ?_; (case hd => rfl); (case hg => rfl); (case hr => first | (go_simp; done) | (go_simp; rfl)); intro gb130 hg w7 hbox hb; have n0_ := Aside0.mk (blkb BK121.out hb); have n1_ := Aside0.mk (below_step (hbw HB.out) hb); have n2_ := Aside0.mk (hbox); have n3_ := bsz HB hg; have n4_ := bsz HB hg; have n5_ := bnl BK121 hg; have n6_ := bng BK121 hg; clear BK121; clear HB; have BK121 := n0_; have HB := n1_; have BK130 := n2_; have GW130 := n3_; have GE130 := n4_; have NB121_130 := n5_; have NB130_121 := n6_; clear n0_ n1_ n2_ n3_ n4_ n5_ n6_; clear hb hbox hg; have hnb8 := NB130_121.out; have hnc8 := NB121_130.out; have hcz9_0 : w7.cell? ⟨gb130, 0, none⟩ = some (.int .i64 0) := ck BK130 0; have hcz9_1 : w7.cell? ⟨gb130, 1, none⟩ = some (.int .i64 0) := ck BK130 1; have hcz9_2 : w7.cell? ⟨gb130, 2, none⟩ = some (.int .i64 0) := ck BK130 2; have hcz9_3 : w7.cell? ⟨gb130, 3, none⟩ = some (.int .i64 0) := ck BK130 3; have hcz9_4 : w7.cell? ⟨gb130, 4, none⟩ = some (.int .i64 0) := ck BK130 4; have hcz9_5 : w7.cell? ⟨gb130, 5, none⟩ = some (.int .i64 0) := ck BK130 5; have hcz9_6 : w7.cell? ⟨gb130, 6, none⟩ = some (.int .i64 0) := ck BK130 6; have hcz9_7 : w7.cell? ⟨gb130, 7, none⟩ = some (.string (⟨#[]⟩ : ByteArray)) := ck BK130 7; have hfz9_0 := blk_frozen BK130.out 0; have hfz9_1 := blk_frozen BK130.out 1; have hfz9_2 := blk_frozen BK130.out 2; have hfz9_3 := blk_frozen BK130.out 3; have hfz9_4 := blk_frozen BK130.out 4; have hfz9_5 := blk_frozen BK130.out 5; have hfz9_6 := blk_frozen BK130.out 6; have hfz9_7 := blk_frozen BK130.out 7))
 go_loopg [6, 15] k (fun kq v6 v15 w' => ∃ (x6_1 : List (S33)) (x15_1 : Int) (x131000_1 : Int) (x131001_1 : Int) (x131002_1 : Int) (x131003_1 : Int) (x131004_1 : Int) (x131005_1 : Int) (x131006_1 : Int) (x131007_1 : ByteArray), v15 = .int .i64 x15_1 ∧ Aside0 (nrzi_Decode.l0 kq x6_1 l1 (l1.length : Int) x15_1 a0_0 x131000_1 x131001_1 x131002_1 x131003_1 x131004_1 x131005_1 x131006_1 x131007_1 = some r) ∧ Aside0 (kq ≤ k) ∧ Aside0 (Kd.R k33 33 w' w.heap.size (fun _ => True) v6 x6_1) ∧ Aside0 (w'.heap[gb121]? = some (.cells #[.bool a0_0] 23 (0, 0))) ∧ Aside0 (w'.heap[gb130]? = some (.cells #[.int .i64 x131000_1, .int .i64 x131001_1, .int .i64 x131002_1, .int .i64 x131003_1, .int .i64 x131004_1, .int .i64 x131005_1, .int .i64 x131006_1, .string x131007_1] 28 (0, 0))) ∧ Aside0 (Below w.heap.size w w'))
 case atStart => exact ⟨(([] : List (S33))), (0), (t122), (t123), (t124), (t125), (t126), (t127), (t128), (t129), (by first | rfl | (simp; done) | (simp [*]; done)), H', ⟨Nat.le_refl _⟩, ⟨by first | exact Kd.R_nil _ _ _ _ _ | exact Kd.N_nil _ _ _ _ _ | exact Kd.V_nil _ _ _ _ _ | exact Kd.Q_nil _ _ _ _ _ | exact Kd.S_nil _ _ _ _ _⟩, ⟨by (repeat (with_reducible first | refine blk_far ?_ NB121_130.out _ | refine blk_drewN ?_ _ | refine blk_drew ?_ | refine blk_alloc ?_ _)); exact BK121.out⟩, ⟨by (with_reducible repeat (first | refine blk_drewN ?_ _ | refine blk_drew ?_ | refine blk_alloc ?_ _)); refine blk_put8 (.int .i64 0) (.int .i64 0) (.int .i64 0) (.int .i64 0) (.int .i64 0) (.int .i64 0) (.int .i64 0) (.string (⟨#[]⟩ : ByteArray)) ?_; (with_reducible repeat (first | refine blk_drewN ?_ _ | refine blk_drew ?_ | refine blk_alloc ?_ _)); exact BK130.out⟩, ⟨by repeat (first | (with_reducible first | exact HB.out | apply below_alloc | apply pw_below_drewN | apply below_drew1 | refine below_set ?_ GE121.out | refine below_set ?_ GE130.out) | exact HB.out)⟩⟩
 case round =>
  clear H'
  try clear c1
  try clear p2
  try clear c8
  try clear hcz5_0
  try clear hcz9_0
  try clear hcz9_1
  try clear hcz9_2
  try clear hcz9_3
  try clear hcz9_4
  try clear hcz9_5
  try clear hcz9_6
  try clear hcz9_7
  try clear hfz5_0
  try clear hfz9_0
  try clear hfz9_1
  try clear hfz9_2
  try clear hfz9_3
  try clear hfz9_4
  try clear hfz9_5
  try clear hfz9_6
  try clear hfz9_7
  obtain ⟨x6_1, x15_1, x131000_1, x131001_1, x131002_1, x131003_1, x131004_1, x131005_1, x131006_1, x131007_1, rfl, HA, HK1, HO_6, BK121, BK130, HB⟩ := hrel
  cases gk with
  | zero => exact absurd HA.out (by simp [nrzi_Decode.l0])
  | succ k1 =>
   have H := HA.out; clear HA
   simp only [nrzi_Decode.l0] at H
   by_cases c10 : x15_1 < (l1.length : Int)
   ·rw [if_pos c10] at H
    have c10b0 : decide (x15_1 < (l1.length : Int)) = true := decide_eq_true c10; clear c10
    by_cases c11 : 0 ≤ x15_1
    ·rw [if_pos c11] at H
     have c11b0 : decide (0 ≤ x15_1) = true := decide_eq_true c11; clear c11
     by_cases c12 : x15_1 < (l1.length : Int)
     ·rw [if_pos c12] at H
      have c12b0 : decide (x15_1 < (l1.length : Int)) = true := decide_eq_true c12; clear c12; replace H := Option.bind_eq_some_iff.mp H; obtain ⟨⟨t133, t134, t135, t136, t137, t138, t139, t140, t141⟩, A130, H⟩ := H; replace H : (if x6_1.length + t141.length < 2199023255552 then (nrzi_Decode.l0 k1 (x6_1 ++ t141) l1 (l1.length : Int) (wrap64 (x15_1 + 1)) a0_0 t133 t134 t135 t136 t137 t138 t139 t140) else (none)) = some r := H; have A13 := Aside0.mk A130; clear A130
      by_cases c14 : x6_1.length + t141.length < 2199023255552
      ·rw [if_pos c14] at H
       have LMc14 := Aside0.mk c14; clear c14; obtain ⟨y145, hy145⟩ : ∃ y_ : List (S33), y_ = (x6_1 ++ t141) := ⟨_, rfl⟩
       replace H : (nrzi_Decode.l0 k1 y145 l1 (l1.length : Int) (wrap64 (x15_1 + 1)) a0_0 t133 t134 t135 t136 t137 t138 t139 t140) = some r := by first | (rw [hy145]; with_reducible exact H) | (have H2_ := (Option.bind_some _ _).symm.trans H; rw [hy145]; with_reducible exact H2_) | (have H2_ := (Option.bind_some _ _).symm.trans H; with_reducible exact H2_) | with_reducible exact H | (rw [hy145]; exact H) | exact H
       have Ny145 := Aside0.mk hy145; clear hy145; have H' := Aside0.mk H; clear H; have p131 : 0 ≤ (x15_1 : Int) := of_decide_eq_true (by first | (with_reducible assumption) | assumption); have q131 : x15_1 < (l1.length : Int) := of_decide_eq_true (by first | (with_reducible assumption) | assumption); obtain ⟨ad131, e131, hx131_0, hx131_1, hx131_2, hx131_3, hx131_4, hx131_5, hx131_6⟩ := at_T33 HR1.out x15_1 p131 q131
       cases e131
       replace hx131_0 := (HB.out.cell (World.block_lt_of_cell? w _ hx131_0)).trans hx131_0; replace hx131_1 := (HB.out.cell (World.block_lt_of_cell? w _ hx131_1)).trans hx131_1; replace hx131_2 := (HB.out.cell (World.block_lt_of_cell? w _ hx131_2)).trans hx131_2; replace hx131_3 := (HB.out.cell (World.block_lt_of_cell? w _ hx131_3)).trans hx131_3; replace hx131_4 := (HB.out.cell (World.block_lt_of_cell? w _ hx131_4)).trans hx131_4; replace hx131_5 := (HB.out.cell (World.block_lt_of_cell? w _ hx131_5)).trans hx131_5; replace hx131_6 := (HB.out.cell (World.block_lt_of_cell? w _ hx131_6)).trans hx131_6; replace p131 := eq_true p131; replace q131 := eq_true q131
       try go_wp2_with (first | ((with_reducible refine gate_dst (N := 8) rfl ?_); refine box_event ?hg (N := 8) ?hd (cs := #[.int .i64 0, .int .i64 0, .int .i64 0, .int .i64 0, .int .i64 0, .string (⟨#[]⟩ : ByteArray), .int .i64 0]) (t := 33) ?hr ?_; (case hd => rfl); (case hg => rfl); (case hr => first | (go_simp; done) | (go_simp; rfl)); intro gb132 hg w15 hbox hb; have n0_ := Aside0.mk (Kd.R_below (Kd.R_elderB (rkw HO_6.out) gb132 (Nat.le_of_eq hg.symm)) hb); have n1_ := Aside0.mk (blkb BK121.out hb); have n2_ := Aside0.mk (blkb BK130.out hb); have n3_ := Aside0.mk (below_step (hbw HB.out) hb); have n4_ := Aside0.mk (hbox); have n5_ := bsz HB hg; have n6_ := bsz HB hg; have n7_ := bnl BK121 hg; have n8_ := bng BK121 hg; have n9_ := bnl BK130 hg; have n10_ := bng BK130 hg; clear HO_6; clear BK121; clear BK130; clear HB; have HO_6 := n0_; have BK121 := n1_; have BK130 := n2_; have HB := n3_; have BK132 := n4_; have GW132 := n5_; have GE132 := n6_; have NB121_132 := n7_; have NB132_121 := n8_; have NB130_132 := n9_; have NB132_130 := n10_; clear n0_ n1_ n2_ n3_ n4_ n5_ n6_ n7_ n8_ n9_ n10_; clear hb hbox hg; have hnb16 := NB132_121.out; have hnc16 := NB121_132.out; have hnb17 := NB132_130.out; have hnc17 := NB130_132.out; have hcz18_0 : w15.cell? ⟨gb132, 0, none⟩ = some (.int .i64 0) := ck BK132 0; have hcz18_1 : w15.cell? ⟨gb132, 1, none⟩ = some (.int .i64 0) := ck BK132 1; have hcz18_2 : w15.cell? ⟨gb132, 2, none⟩ = some (.int .i64 0) := ck BK132 2; have hcz18_3 : w15.cell? ⟨gb132, 3, none⟩ = some (.int .i64 0) := ck BK132 3; have hcz18_4 : w15.cell? ⟨gb132, 4, none⟩ = some (.int .i64 0) := ck BK132 4; have hcz18_5 : w15.cell? ⟨gb132, 5, none⟩ = some (.string (⟨#[]⟩ : ByteArray)) := ck BK132 5; have hcz18_6 : w15.cell? ⟨gb132, 6, none⟩ = some (.int .i64 0) := ck BK132 6; have hfz18_0 := blk_frozen BK132.out 0; have hfz18_1 := blk_frozen BK132.out 1; have hfz18_2 := blk_frozen BK132.out 2; have hfz18_3 := blk_frozen BK132.out 3; have hfz18_4 := blk_frozen BK132.out 4; have hfz18_5 := blk_frozen BK132.out 5; have hfz18_6 := blk_frozen BK132.out 6; have hnb19 := NB121_130.out; have hnc19 := NB130_121.out; have hcz20_0 : w15.cell? ⟨gb121, 0, none⟩ = some (.bool a0_0) := ck BK121 0; have hfz20_0 := blk_frozen BK121.out 0; have hcz21_0 : w15.cell? ⟨gb130, 0, none⟩ = some (.int .i64 x131000_1) := ck BK130 0; have hcz21_1 : w15.cell? ⟨gb130, 1, none⟩ = some (.int .i64 x131001_1) := ck BK130 1; have hcz21_2 : w15.cell? ⟨gb130, 2, none⟩ = some (.int .i64 x131002_1) := ck BK130 2; have hcz21_3 : w15.cell? ⟨gb130, 3, none⟩ = some (.int .i64 x131003_1) := ck BK130 3; have hcz21_4 : w15.cell? ⟨gb130, 4, none⟩ = some (.int .i64 x131004_1) := ck BK130 4; have hcz21_5 : w15.cell? ⟨gb130, 5, none⟩ = some (.int .i64 x131005_1) := ck BK130 5; have hcz21_6 : w15.cell? ⟨gb130, 6, none⟩ = some (.int .i64 x131006_1) := ck BK130 6; have hcz21_7 : w15.cell? ⟨gb130, 7, none⟩ = some (.string x131007_1) := ck BK130 7; have hfz21_0 := blk_frozen BK130.out 0; have hfz21_1 := blk_frozen BK130.out 1; have hfz21_2 := blk_frozen BK130.out 2; have hfz21_3 := blk_frozen BK130.out 3; have hfz21_4 := blk_frozen BK130.out 4; have hfz21_5 := blk_frozen BK130.out 5; have hfz21_6 := blk_frozen BK130.out 6; have hfz21_7 := blk_frozen BK130.out 7) | ((with_reducible refine gate_callee (f := 12) rfl ?_); refine goesL_ (some 23) rfl rfl Try.func12 (by kernel_rfl) rfl #[.agg #[.bool a0_0], .agg #[.int .i64 x131000_1, .int .i64 x131001_1, .int .i64 x131002_1, .int .i64 x131003_1, .int .i64 x131004_1, .int .i64 x131005_1, .int .i64 x131006_1, .string x131007_1], .agg #[.int .i64 ((rd_T33 l1 x15_1).f0), .int .i64 ((rd_T33 l1 x15_1).f1), .int .i64 ((rd_T33 l1 x15_1).f2), .int .i64 ((rd_T33 l1 x15_1).f3), .int .i64 ((rd_T33 l1 x15_1).f4), .string ((rd_T33 l1 x15_1).f5), .int .i64 ((rd_T33 l1 x15_1).f6)]] rfl (by (try simp only [List.map_toArray, List.map_cons, List.map_nil]); first | done | rfl | (simp only [List.length_drop, List.length_take]; rfl)) ?_; (with_reducible refine (nrzi_Step.calls k1 a0_0 x131000_1 x131001_1 x131002_1 x131003_1 x131004_1 x131005_1 x131006_1 x131007_1 ((rd_T33 l1 x15_1).f0) ((rd_T33 l1 x15_1).f1) ((rd_T33 l1 x15_1).f2) ((rd_T33 l1 x15_1).f3) ((rd_T33 l1 x15_1).f4) ((rd_T33 l1 x15_1).f5) ((rd_T33 l1 x15_1).f6) t133 t134 t135 t136 t137 t138 t139 t140 t141 _ A13.out).mono ?_); rintro e w22 ⟨v142, rfl, ho0, hb⟩; refine ⟨_, rfl, ?_⟩; have n0_ := Aside0.mk (Kd.R_elder' (by (with_reducible repeat (first | apply Kd.R_alloc | apply Kd.R_drewN | apply Kd.R_drew)); exact (Kd.R_mono (Kd.R_far (p := ⟨gb132, 6, none⟩) (Kd.R_far (p := ⟨gb132, 5, none⟩) (Kd.R_far (p := ⟨gb132, 4, none⟩) (Kd.R_far (p := ⟨gb132, 3, none⟩) (Kd.R_far (p := ⟨gb132, 2, none⟩) (Kd.R_far (p := ⟨gb132, 1, none⟩) (Kd.R_far (p := ⟨gb132, 0, none⟩) (Kd.R_mono HO_6.out (fun k_ hk => (⟨hk, hk.2⟩ : _ ∧ k_ ≠ gb132))) (fun _ hk => hk.2) (.int .i64 ((rd_T33 l1 x15_1).f0))) (fun _ hk => hk.2) (.int .i64 ((rd_T33 l1 x15_1).f1))) (fun _ hk => hk.2) (.int .i64 ((rd_T33 l1 x15_1).f2))) (fun _ hk => hk.2) (.int .i64 ((rd_T33 l1 x15_1).f3))) (fun _ hk => hk.2) (.int .i64 ((rd_T33 l1 x15_1).f4))) (fun _ hk => hk.2) (.string ((rd_T33 l1 x15_1).f5))) (fun _ hk => hk.2) (.int .i64 ((rd_T33 l1 x15_1).f6))) (fun _ h_ => h_.1))) (Kd.R_base ho0) hb); have n1_ := Aside0.mk (Kd.R_lower (Kd.R_newB (Kd.R_new' ho0 (Kd.R_lt (by (with_reducible repeat (first | apply Kd.R_alloc | apply Kd.R_drewN | apply Kd.R_drew)); exact (Kd.R_mono (Kd.R_far (p := ⟨gb132, 6, none⟩) (Kd.R_far (p := ⟨gb132, 5, none⟩) (Kd.R_far (p := ⟨gb132, 4, none⟩) (Kd.R_far (p := ⟨gb132, 3, none⟩) (Kd.R_far (p := ⟨gb132, 2, none⟩) (Kd.R_far (p := ⟨gb132, 1, none⟩) (Kd.R_far (p := ⟨gb132, 0, none⟩) (Kd.R_mono HO_6.out (fun k_ hk => (⟨hk, hk.2⟩ : _ ∧ k_ ≠ gb132))) (fun _ hk => hk.2) (.int .i64 ((rd_T33 l1 x15_1).f0))) (fun _ hk => hk.2) (.int .i64 ((rd_T33 l1 x15_1).f1))) (fun _ hk => hk.2) (.int .i64 ((rd_T33 l1 x15_1).f2))) (fun _ hk => hk.2) (.int .i64 ((rd_T33 l1 x15_1).f3))) (fun _ hk => hk.2) (.int .i64 ((rd_T33 l1 x15_1).f4))) (fun _ hk => hk.2) (.string ((rd_T33 l1 x15_1).f5))) (fun _ hk => hk.2) (.int .i64 ((rd_T33 l1 x15_1).f6))) (fun _ h_ => h_.1))))) (g := gb132) (o := .cells #[.int .i64 ((rd_T33 l1 x15_1).f0), .int .i64 ((rd_T33 l1 x15_1).f1), .int .i64 ((rd_T33 l1 x15_1).f2), .int .i64 ((rd_T33 l1 x15_1).f3), .int .i64 ((rd_T33 l1 x15_1).f4), .string ((rd_T33 l1 x15_1).f5), .int .i64 ((rd_T33 l1 x15_1).f6)] 33 (0, 0)) (by (with_reducible repeat (first | refine blk_drewN ?_ _ | refine blk_drew ?_ | refine blk_alloc ?_ _)); refine blk_put7 (.int .i64 0) (.int .i64 0) (.int .i64 0) (.int .i64 0) (.int .i64 0) (.string (⟨#[]⟩ : ByteArray)) (.int .i64 0) ?_; (with_reducible repeat (first | refine blk_drewN ?_ _ | refine blk_drew ?_ | refine blk_alloc ?_ _)); exact BK132.out)) (below_size (hbw HB.out))); have n2_ := Aside0.mk (blk_below (g := gb121) (o := .cells #[.bool a0_0] 23 (0, 0)) (by (repeat (with_reducible first | refine blk_far ?_ NB121_132.out _ | refine blk_drewN ?_ _ | refine blk_drew ?_ | refine blk_alloc ?_ _)); exact BK121.out) hb); have n3_ := Aside0.mk (blk_below (g := gb130) (o := .cells #[.int .i64 x131000_1, .int .i64 x131001_1, .int .i64 x131002_1, .int .i64 x131003_1, .int .i64 x131004_1, .int .i64 x131005_1, .int .i64 x131006_1, .string x131007_1] 28 (0, 0)) (by (repeat (with_reducible first | refine blk_far ?_ NB130_132.out _ | refine blk_drewN ?_ _ | refine blk_drew ?_ | refine blk_alloc ?_ _)); exact BK130.out) hb); have n4_ := Aside0.mk (blk_below (g := gb132) (o := .cells #[.int .i64 ((rd_T33 l1 x15_1).f0), .int .i64 ((rd_T33 l1 x15_1).f1), .int .i64 ((rd_T33 l1 x15_1).f2), .int .i64 ((rd_T33 l1 x15_1).f3), .int .i64 ((rd_T33 l1 x15_1).f4), .string ((rd_T33 l1 x15_1).f5), .int .i64 ((rd_T33 l1 x15_1).f6)] 33 (0, 0)) (by (with_reducible repeat (first | refine blk_drewN ?_ _ | refine blk_drew ?_ | refine blk_alloc ?_ _)); refine blk_put7 (.int .i64 0) (.int .i64 0) (.int .i64 0) (.int .i64 0) (.int .i64 0) (.string (⟨#[]⟩ : ByteArray)) (.int .i64 0) ?_; (with_reducible repeat (first | refine blk_drewN ?_ _ | refine blk_drew ?_ | refine blk_alloc ?_ _)); exact BK132.out) hb); have n5_ := Aside0.mk (below_step (hbw HB.out) hb); clear HO_6; clear BK121; clear BK130; clear BK132; clear HB; have HO_6 := n0_; have HO143 := n1_; have BK121 := n2_; have BK130 := n3_; have BK132 := n4_; have HB := n5_; clear n0_ n1_ n2_ n3_ n4_ n5_; (try clear hb); (try clear hb2); (try clear hk); (try clear hi); (try clear ho0)) | ((with_reducible refine gate_dst (N := 9) rfl ?_); refine box_event ?hg (N := 9) ?hd (cs := #[.int .i64 0, .int .i64 0, .int .i64 0, .int .i64 0, .int .i64 0, .int .i64 0, .int .i64 0, .string (⟨#[]⟩ : ByteArray)]) (t := 28) ?hr ?_; (case hd => rfl); (case hg => rfl); (case hr => first | (go_simp; done) | (go_simp; rfl)); intro gb144 hg w23 hbox hb; have n0_ := Aside0.mk (Kd.R_below (rkw HO_6.out) hb); have n1_ := Aside0.mk (Kd.R_below (rkw HO143.out) hb); have n2_ := Aside0.mk (blkb BK121.out hb); have n3_ := Aside0.mk (blkb BK130.out hb); have n4_ := Aside0.mk (blkb BK132.out hb); have n5_ := Aside0.mk (below_step (hbw HB.out) hb); have n6_ := Aside0.mk (hbox); have n7_ := bsz HB hg; have n8_ := bsz HB hg; have n9_ := bnl BK121 hg; have n10_ := bng BK121 hg; have n11_ := bnl BK130 hg; have n12_ := bng BK130 hg; have n13_ := bnl BK132 hg; have n14_ := bng BK132 hg; clear HO_6; clear HO143; clear BK121; clear BK130; clear BK132; clear HB; have HO_6 := n0_; have HO143 := n1_; have BK121 := n2_; have BK130 := n3_; have BK132 := n4_; have HB := n5_; have BK144 := n6_; have GW144 := n7_; have GE144 := n8_; have NB121_144 := n9_; have NB144_121 := n10_; have NB130_144 := n11_; have NB144_130 := n12_; have NB132_144 := n13_; have NB144_132 := n14_; clear n0_ n1_ n2_ n3_ n4_ n5_ n6_ n7_ n8_ n9_ n10_ n11_ n12_ n13_ n14_; clear hb hbox hg; have hnb24 := NB144_121.out; have hnc24 := NB121_144.out; have hnb25 := NB144_130.out; have hnc25 := NB130_144.out; have hnb26 := NB144_132.out; have hnc26 := NB132_144.out; have hcz27_0 : w23.cell? ⟨gb144, 0, none⟩ = some (.int .i64 0) := ck BK144 0; have hcz27_1 : w23.cell? ⟨gb144, 1, none⟩ = some (.int .i64 0) := ck BK144 1; have hcz27_2 : w23.cell? ⟨gb144, 2, none⟩ = some (.int .i64 0) := ck BK144 2; have hcz27_3 : w23.cell? ⟨gb144, 3, none⟩ = some (.int .i64 0) := ck BK144 3; have hcz27_4 : w23.cell? ⟨gb144, 4, none⟩ = some (.int .i64 0) := ck BK144 4; have hcz27_5 : w23.cell? ⟨gb144, 5, none⟩ = some (.int .i64 0) := ck BK144 5; have hcz27_6 : w23.cell? ⟨gb144, 6, none⟩ = some (.int .i64 0) := ck BK144 6; have hcz27_7 : w23.cell? ⟨gb144, 7, none⟩ = some (.string (⟨#[]⟩ : ByteArray)) := ck BK144 7; have hfz27_0 := blk_frozen BK144.out 0; have hfz27_1 := blk_frozen BK144.out 1; have hfz27_2 := blk_frozen BK144.out 2; have hfz27_3 := blk_frozen BK144.out 3; have hfz27_4 := blk_frozen BK144.out 4; have hfz27_5 := blk_frozen BK144.out 5; have hfz27_6 := blk_frozen BK144.out 6; have hfz27_7 := blk_frozen BK144.out 7))
       have n0_ : Aside0 (Kd.R k33 33 ((((((((w23.setCell ⟨gb144, 0, none⟩ (.int .i64 t133)).setCell ⟨gb144, 1, none⟩ (.int .i64 t134)).setCell ⟨gb144, 2, none⟩ (.int .i64 t135)).setCell ⟨gb144, 3, none⟩ (.int .i64 t136)).setCell ⟨gb144, 4, none⟩ (.int .i64 t137)).setCell ⟨gb144, 5, none⟩ (.int .i64 t138)).setCell ⟨gb144, 6, none⟩ (.int .i64 t139)).setCell ⟨gb144, 7, none⟩ (.string t140)) w.heap.size (fun k_ => some k_ ≠ (v142 : Value).ownBlock ∧ k_ ≠ gb132) u6 x6_1) := ⟨by (with_reducible repeat (first | apply Kd.R_alloc | apply Kd.R_drewN | apply Kd.R_drew)); exact Kd.R_mono (Kd.R_far (p := ⟨gb144, 7, none⟩) (Kd.R_far (p := ⟨gb144, 6, none⟩) (Kd.R_far (p := ⟨gb144, 5, none⟩) (Kd.R_far (p := ⟨gb144, 4, none⟩) (Kd.R_far (p := ⟨gb144, 3, none⟩) (Kd.R_far (p := ⟨gb144, 2, none⟩) (Kd.R_far (p := ⟨gb144, 1, none⟩) (Kd.R_far (p := ⟨gb144, 0, none⟩) (Kd.R_types HO_6.out BK144.out (by decide)) (fun _ hk => hk.2) (.int .i64 t133)) (fun _ hk => hk.2) (.int .i64 t134)) (fun _ hk => hk.2) (.int .i64 t135)) (fun _ hk => hk.2) (.int .i64 t136)) (fun _ hk => hk.2) (.int .i64 t137)) (fun _ hk => hk.2) (.int .i64 t138)) (fun _ hk => hk.2) (.int .i64 t139)) (fun _ hk => hk.2) (.string t140)) (fun _ hk => ⟨hk.1.2, hk.1.1.2⟩)⟩; have n1_ : Aside0 (Kd.R k33 33 ((((((((w23.setCell ⟨gb144, 0, none⟩ (.int .i64 t133)).setCell ⟨gb144, 1, none⟩ (.int .i64 t134)).setCell ⟨gb144, 2, none⟩ (.int .i64 t135)).setCell ⟨gb144, 3, none⟩ (.int .i64 t136)).setCell ⟨gb144, 4, none⟩ (.int .i64 t137)).setCell ⟨gb144, 5, none⟩ (.int .i64 t138)).setCell ⟨gb144, 6, none⟩ (.int .i64 t139)).setCell ⟨gb144, 7, none⟩ (.string t140)) w.heap.size (fun k_ => some k_ ≠ (u6 : Value).ownBlock ∧ k_ ≠ gb132) v142 t141) := ⟨by (with_reducible repeat (first | apply Kd.R_alloc | apply Kd.R_drewN | apply Kd.R_drew)); exact Kd.R_mono (Kd.R_far (p := ⟨gb144, 7, none⟩) (Kd.R_far (p := ⟨gb144, 6, none⟩) (Kd.R_far (p := ⟨gb144, 5, none⟩) (Kd.R_far (p := ⟨gb144, 4, none⟩) (Kd.R_far (p := ⟨gb144, 3, none⟩) (Kd.R_far (p := ⟨gb144, 2, none⟩) (Kd.R_far (p := ⟨gb144, 1, none⟩) (Kd.R_far (p := ⟨gb144, 0, none⟩) (Kd.R_types HO143.out BK144.out (by decide)) (fun _ hk => hk.2) (.int .i64 t133)) (fun _ hk => hk.2) (.int .i64 t134)) (fun _ hk => hk.2) (.int .i64 t135)) (fun _ hk => hk.2) (.int .i64 t136)) (fun _ hk => hk.2) (.int .i64 t137)) (fun _ hk => hk.2) (.int .i64 t138)) (fun _ hk => hk.2) (.int .i64 t139)) (fun _ hk => hk.2) (.string t140)) (fun _ hk => ⟨hk.1.1.2, hk.1.2⟩)⟩; have n2_ : Aside0 (((((((((w23.setCell ⟨gb144, 0, none⟩ (.int .i64 t133)).setCell ⟨gb144, 1, none⟩ (.int .i64 t134)).setCell ⟨gb144, 2, none⟩ (.int .i64 t135)).setCell ⟨gb144, 3, none⟩ (.int .i64 t136)).setCell ⟨gb144, 4, none⟩ (.int .i64 t137)).setCell ⟨gb144, 5, none⟩ (.int .i64 t138)).setCell ⟨gb144, 6, none⟩ (.int .i64 t139)).setCell ⟨gb144, 7, none⟩ (.string t140)).heap[gb121]? = some (.cells #[.bool a0_0] 23 (0, 0))) := ⟨by (repeat (with_reducible first | refine blk_far ?_ NB121_144.out _ | refine blk_drewN ?_ _ | refine blk_drew ?_ | refine blk_alloc ?_ _)); exact BK121.out⟩
       have n3_ : Aside0 (((((((((w23.setCell ⟨gb144, 0, none⟩ (.int .i64 t133)).setCell ⟨gb144, 1, none⟩ (.int .i64 t134)).setCell ⟨gb144, 2, none⟩ (.int .i64 t135)).setCell ⟨gb144, 3, none⟩ (.int .i64 t136)).setCell ⟨gb144, 4, none⟩ (.int .i64 t137)).setCell ⟨gb144, 5, none⟩ (.int .i64 t138)).setCell ⟨gb144, 6, none⟩ (.int .i64 t139)).setCell ⟨gb144, 7, none⟩ (.string t140)).heap[gb130]? = some (.cells #[.int .i64 x131000_1, .int .i64 x131001_1, .int .i64 x131002_1, .int .i64 x131003_1, .int .i64 x131004_1, .int .i64 x131005_1, .int .i64 x131006_1, .string x131007_1] 28 (0, 0))) := ⟨by (repeat (with_reducible first | refine blk_far ?_ NB130_144.out _ | refine blk_drewN ?_ _ | refine blk_drew ?_ | refine blk_alloc ?_ _)); exact BK130.out⟩; have n4_ : Aside0 (((((((((w23.setCell ⟨gb144, 0, none⟩ (.int .i64 t133)).setCell ⟨gb144, 1, none⟩ (.int .i64 t134)).setCell ⟨gb144, 2, none⟩ (.int .i64 t135)).setCell ⟨gb144, 3, none⟩ (.int .i64 t136)).setCell ⟨gb144, 4, none⟩ (.int .i64 t137)).setCell ⟨gb144, 5, none⟩ (.int .i64 t138)).setCell ⟨gb144, 6, none⟩ (.int .i64 t139)).setCell ⟨gb144, 7, none⟩ (.string t140)).heap[gb132]? = some (.cells #[.int .i64 ((rd_T33 l1 x15_1).f0), .int .i64 ((rd_T33 l1 x15_1).f1), .int .i64 ((rd_T33 l1 x15_1).f2), .int .i64 ((rd_T33 l1 x15_1).f3), .int .i64 ((rd_T33 l1 x15_1).f4), .string ((rd_T33 l1 x15_1).f5), .int .i64 ((rd_T33 l1 x15_1).f6)] 33 (0, 0))) := ⟨by (repeat (with_reducible first | refine blk_far ?_ NB132_144.out _ | refine blk_drewN ?_ _ | refine blk_drew ?_ | refine blk_alloc ?_ _)); exact BK132.out⟩; have n5_ : Aside0 (((((((((w23.setCell ⟨gb144, 0, none⟩ (.int .i64 t133)).setCell ⟨gb144, 1, none⟩ (.int .i64 t134)).setCell ⟨gb144, 2, none⟩ (.int .i64 t135)).setCell ⟨gb144, 3, none⟩ (.int .i64 t136)).setCell ⟨gb144, 4, none⟩ (.int .i64 t137)).setCell ⟨gb144, 5, none⟩ (.int .i64 t138)).setCell ⟨gb144, 6, none⟩ (.int .i64 t139)).setCell ⟨gb144, 7, none⟩ (.string t140)).heap[gb144]? = some (.cells #[.int .i64 t133, .int .i64 t134, .int .i64 t135, .int .i64 t136, .int .i64 t137, .int .i64 t138, .int .i64 t139, .string t140] 28 (0, 0))) := ⟨by (with_reducible repeat (first | refine blk_drewN ?_ _ | refine blk_drew ?_ | refine blk_alloc ?_ _)); refine blk_put8 (.int .i64 0) (.int .i64 0) (.int .i64 0) (.int .i64 0) (.int .i64 0) (.int .i64 0) (.int .i64 0) (.string (⟨#[]⟩ : ByteArray)) ?_; (with_reducible repeat (first | refine blk_drewN ?_ _ | refine blk_drew ?_ | refine blk_alloc ?_ _)); exact BK144.out⟩; have n6_ : Aside0 (Below w.heap.size w ((((((((w23.setCell ⟨gb144, 0, none⟩ (.int .i64 t133)).setCell ⟨gb144, 1, none⟩ (.int .i64 t134)).setCell ⟨gb144, 2, none⟩ (.int .i64 t135)).setCell ⟨gb144, 3, none⟩ (.int .i64 t136)).setCell ⟨gb144, 4, none⟩ (.int .i64 t137)).setCell ⟨gb144, 5, none⟩ (.int .i64 t138)).setCell ⟨gb144, 6, none⟩ (.int .i64 t139)).setCell ⟨gb144, 7, none⟩ (.string t140))) := ⟨by repeat (first | (with_reducible first | exact HB.out | apply below_alloc | apply pw_below_drewN | apply below_drew1 | refine below_set ?_ GE121.out | refine below_set ?_ GE130.out | refine below_set ?_ GE132.out | refine below_set ?_ GE144.out) | exact HB.out)⟩
       (try clear HO_6); (try clear HO143); (try clear BK121); (try clear BK130); (try clear BK132); (try clear BK144); (try clear HB)
       generalize ((((((((w23.setCell ⟨gb144, 0, none⟩ (.int .i64 t133)).setCell ⟨gb144, 1, none⟩ (.int .i64 t134)).setCell ⟨gb144, 2, none⟩ (.int .i64 t135)).setCell ⟨gb144, 3, none⟩ (.int .i64 t136)).setCell ⟨gb144, 4, none⟩ (.int .i64 t137)).setCell ⟨gb144, 5, none⟩ (.int .i64 t138)).setCell ⟨gb144, 6, none⟩ (.int .i64 t139)).setCell ⟨gb144, 7, none⟩ (.string t140)) = w28 at n0_ n1_ n2_ n3_ n4_ n5_ n6_ ⊢
       have HO_6 := n0_; have HO143 := n1_; have BK121 := n2_; have BK130 := n3_; have BK132 := n4_; have BK144 := n5_; have HB := n6_; clear n0_ n1_ n2_ n3_ n4_ n5_ n6_; have n0_ := Aside0.mk (Kd.R_drew HO_6.out); have n1_ := Aside0.mk (Kd.R_drew HO143.out); have n2_ := Aside0.mk (blk_drew BK121.out); have n3_ := Aside0.mk (blk_drew BK130.out); have n4_ := Aside0.mk (blk_drew BK132.out); have n5_ := Aside0.mk (blk_drew BK144.out); have n6_ := Aside0.mk (below_drew1 HB.out); clear HO_6; clear HO143; clear BK121; clear BK130; clear BK132; clear BK144; clear HB; have HO_6 := n0_; have HO143 := n1_; have BK121 := n2_; have BK130 := n3_; have BK132 := n4_; have BK144 := n5_; have HB := n6_; clear n0_ n1_ n2_ n3_ n4_ n5_ n6_; obtain ⟨Ao31, co31, eo31⟩ := Kd.R_slice HO143.out
       (first | subst eo31 | (injection eo31 with f1_ f2_ f3_; have f4_ := f1_.symm; have f5_ := f3_.symm; clear f1_ f2_ f3_; subst f4_; subst f5_))
       refine start_ (n := 6) (S := fun w' => w'.cell? ⟨gb144, 0, none⟩ = some (.int .i64 t133) ∧ w'.cell? ⟨gb144, 1, none⟩ = some (.int .i64 t134) ∧ w'.cell? ⟨gb144, 2, none⟩ = some (.int .i64 t135) ∧ w'.cell? ⟨gb144, 3, none⟩ = some (.int .i64 t136) ∧ w'.cell? ⟨gb144, 4, none⟩ = some (.int .i64 t137) ∧ w'.cell? ⟨gb144, 5, none⟩ = some (.int .i64 t138) ∧ w'.cell? ⟨gb144, 6, none⟩ = some (.int .i64 t139) ∧ w'.cell? ⟨gb144, 7, none⟩ = some (.string t140)) (ds := []) #[N_,N_,N_,N_,N_,N_] (by kernel_rfl) rfl rfl ⟨ck BK144 0, ck BK144 1, ck BK144 2, ck BK144 3, ck BK144 4, ck BK144 5, ck BK144 6, ck BK144 7⟩ (fun hHeld => ?_)
       generalize w28.drew = w29 at HO_6 HO143 BK121 BK130 BK132 BK144 HB hHeld ⊢
       refine pure_ (i := 1) (N := some 27) (v := ?_) (a' := ?_) #[N_,Y_,N_,N_,N_,N_] rfl rfl (by kernel_rfl) (fun _ _ _ h => h) (Or.inl ⟨by rfl, ?_⟩) ?_ ?_; rotate_left
       ·intro w'
        go_simp
        with_reducible rfl
       rotate_left
       ·simp only [Act.put, nrm]
        rfl
       refine pure_ (i := 2) (N := some 28) (v := ?_) (a' := ?_) #[N_,Y_,Y_,N_,N_,N_] rfl rfl (by kernel_rfl) (fun _ _ _ h => h) (Or.inl ⟨by rfl, ?_⟩) ?_ ?_; rotate_left
       ·intro w'
        go_simp
        with_reducible rfl
       rotate_left
       ·simp only [Act.put, nrm]
        rfl
       refine take_ (i := 0) (N := some 26) (v := ?_) (a' := ?_) #[Y_,Y_,Y_,N_,N_,N_] rfl rfl (by kernel_rfl) (fun _ _ _ h => h) (Or.inl ⟨by rfl, ?_⟩) hHeld ?_ ?_; rotate_left
       ·rintro w' ⟨s0, s1, s2, s3, s4, s5, s6, s7⟩
        go_simp
        with_reducible rfl
       rotate_left
       ·simp only [Act.put, nrm]
        rfl
       refine one_ (i := 3) (N := some 29) #[Y_,Y_,Y_,Y_,N_,N_] rfl rfl (by kernel_rfl) (by decide) (fun K hK => ?_); refine Kd.R_append_rows_step k33 (w0 := w) w.heap.size (by rfl) (.tmp 27) (.tmp 28) 24 33 (.agg #[(.int .i64 0), (.int .i64 0), (.int .i64 0), (.int .i64 0), (.int .i64 0), (.string ⟨#[]⟩), (.int .i64 0)]) 64 rfl Try.underlying24 info33 rfl (by decide) (by omega) u6 x6_1 t141 _ _ _ (fun k_ => some k_ ≠ (.slice Ao31 t141.length co31 : Value).ownBlock ∧ k_ ≠ gb132) (fun _ => False) rfl rfl ?aO ?aR (fun _ _ h => h) (fun _ h => h.elim) ?aF ?aB ?aS ?aL ?_
       (case aR => repeat (first | exact (Kd.R_reads' HO143.out).2.2 | (with_reducible refine Kd.C_alloc ?_ _) | (with_reducible refine Kd.C_drewN ?_ _) | (with_reducible refine Kd.C_drew ?_)))
       (case aB => exact (hbw HB.out))
       (case aF => exact (fun k_ hk => ⟨Kd.fresh' (Kd.R_lt (rkw HO143.out)) k_ hk, Kd.freshB (g := gb132) (o := .cells #[.int .i64 ((rd_T33 l1 x15_1).f0), .int .i64 ((rd_T33 l1 x15_1).f1), .int .i64 ((rd_T33 l1 x15_1).f2), .int .i64 ((rd_T33 l1 x15_1).f3), .int .i64 ((rd_T33 l1 x15_1).f4), .string ((rd_T33 l1 x15_1).f5), .int .i64 ((rd_T33 l1 x15_1).f6)] 33 (0, 0)) (bkw BK132.out) k_ hk⟩))
       (case aO => exact (rkw HO_6.out))
       (case aS => exact (below_size (hbw HB.out)))
       (case aL => have := LMc14.out; omega)
       intro v146 w30 ho hb hg hat
       rw [← Ny145.out] at ho
       have n0_ := Aside0.mk (blkg BK121.out hg (Kd.R_ne HO_6.out BK121.out (by decide))); have n1_ := Aside0.mk (blkg BK130.out hg (Kd.R_ne HO_6.out BK130.out (by decide))); have n2_ := Aside0.mk (blkg BK132.out hg (Kd.R_away HO_6.out (fun _ hk => hk.2))); have n3_ := Aside0.mk (Kd.R_after (ok := (fun k_ => k_ ≠ gb132)) (by (with_reducible repeat (first | apply Kd.R_alloc | apply Kd.R_drewN | apply Kd.R_drew)); exact Kd.R_mono HO143.out (fun _ hk => ⟨hk.2, hk.1⟩)) hg hat); have n4_ := Aside0.mk (blkg BK144.out hg (Kd.R_ne HO_6.out BK144.out (by decide))); have n5_ := Aside0.mk (hb); have n6_ := Aside0.mk (ho); clear BK121; clear BK130; clear BK132; clear HO143; clear BK144; clear HB; clear HO_6; have BK121 := n0_; have BK130 := n1_; have BK132 := n2_; have HO143 := n3_; have BK144 := n4_; have HB := n5_; have HO147 := n6_; clear n0_ n1_ n2_ n3_ n4_ n5_ n6_; clear ho hb hg hat; refine hK.out _ _ ⟨ck BK144 0, ck BK144 1, ck BK144 2, ck BK144 3, ck BK144 4, ck BK144 5, ck BK144 6, ck BK144 7⟩ (fun hHeld => ?_); clear hK K; refine norm_ (a' := ?_) ?_ ?_; rotate_left
       ·show Act.put _ (some 29) _ = _
        simp only [Act.put, nrm]
        rfl
       refine one_ (i := 4) (N := none) #[Y_,Y_,Y_,Y_,Y_,N_] rfl rfl (by kernel_rfl) (by decide) (fun K hK => ?_); have hs32 : w30.cell? ⟨gb130, 0, none⟩ = some (.int .i64 x131000_1) := ck BK130 0; have hfs32 := blk_frozen BK130.out 0; have := NB121_130.out; have := NB132_130.out; have := NB144_130.out; have := NB130_121.out; have := NB130_132.out; have := NB130_144.out; have hs33 : w30.cell? ⟨gb130, 1, none⟩ = some (.int .i64 x131001_1) := ck BK130 1; have hfs33 := blk_frozen BK130.out 1; have := NB121_130.out; have := NB132_130.out; have := NB144_130.out; have := NB130_121.out; have := NB130_132.out; have := NB130_144.out; have hs34 : w30.cell? ⟨gb130, 2, none⟩ = some (.int .i64 x131002_1) := ck BK130 2; have hfs34 := blk_frozen BK130.out 2; have := NB121_130.out; have := NB132_130.out; have := NB144_130.out; have := NB130_121.out; have := NB130_132.out; have := NB130_144.out; have hs35 : w30.cell? ⟨gb130, 3, none⟩ = some (.int .i64 x131003_1) := ck BK130 3; have hfs35 := blk_frozen BK130.out 3; have := NB121_130.out; have := NB132_130.out; have := NB144_130.out; have := NB130_121.out; have := NB130_132.out; have := NB130_144.out; have hs36 : w30.cell? ⟨gb130, 4, none⟩ = some (.int .i64 x131004_1) := ck BK130 4; have hfs36 := blk_frozen BK130.out 4; have := NB121_130.out; have := NB132_130.out; have := NB144_130.out; have := NB130_121.out; have := NB130_132.out; have := NB130_144.out; have hs37 : w30.cell? ⟨gb130, 5, none⟩ = some (.int .i64 x131005_1) := ck BK130 5; have hfs37 := blk_frozen BK130.out 5; have := NB121_130.out; have := NB132_130.out; have := NB144_130.out; have := NB130_121.out; have := NB130_132.out; have := NB130_144.out; have hs38 : w30.cell? ⟨gb130, 6, none⟩ = some (.int .i64 x131006_1) := ck BK130 6; have hfs38 := blk_frozen BK130.out 6; have := NB121_130.out; have := NB132_130.out; have := NB144_130.out; have := NB130_121.out; have := NB130_132.out; have := NB130_144.out; have hs39 : w30.cell? ⟨gb130, 7, none⟩ = some (.string x131007_1) := ck BK130 7; have hfs39 := blk_frozen BK130.out 7; have := NB121_130.out; have := NB132_130.out; have := NB144_130.out; have := NB130_121.out; have := NB130_132.out; have := NB130_144.out; refine skip_ (w1 := ?_) (by rfl) rfl ?_ ?_; rotate_left
       ·go_simp
        rfl
       refine hK.out _ _ ⟨((far8 (g := gb130) NB144_130.out).trans (hHeld.1)), ((far8 (g := gb130) NB144_130.out).trans (hHeld.2.1)), ((far8 (g := gb130) NB144_130.out).trans (hHeld.2.2.1)), ((far8 (g := gb130) NB144_130.out).trans (hHeld.2.2.2.1)), ((far8 (g := gb130) NB144_130.out).trans (hHeld.2.2.2.2.1)), ((far8 (g := gb130) NB144_130.out).trans (hHeld.2.2.2.2.2.1)), ((far8 (g := gb130) NB144_130.out).trans (hHeld.2.2.2.2.2.2.1)), ((far8 (g := gb130) NB144_130.out).trans (hHeld.2.2.2.2.2.2.2))⟩ (fun hHeld => ?_); clear hK K; refine pure_ (i := 5) (N := some 6) (v := ?_) (a' := ?_) #[Y_,Y_,Y_,Y_,Y_,Y_] rfl rfl (by kernel_rfl) (fun _ _ _ h => h) (Or.inl ⟨by rfl, ?_⟩) ?_ ?_; rotate_left
       ·intro w'
        go_simp
        with_reducible rfl
       rotate_left
       ·simp only [Act.put, nrm]
        rfl
       refine done_ (by kernel_rfl) ?_
       try go_wp2
       go_roundg k1
       case measure => have := HK1.out; omega
       case rel => exact ⟨(y145), (wrap64 (x15_1 + 1)), (t133), (t134), (t135), (t136), (t137), (t138), (t139), (t140), (by first | rfl | (simp; done) | (simp [*]; done)), H', ⟨by have := HK1.out; omega⟩, ⟨by (with_reducible repeat (first | apply Kd.R_alloc | apply Kd.R_drewN | apply Kd.R_drew)); exact Kd.R_mono (Kd.R_far (p := ⟨gb130, 7, none⟩) (Kd.R_far (p := ⟨gb130, 6, none⟩) (Kd.R_far (p := ⟨gb130, 5, none⟩) (Kd.R_far (p := ⟨gb130, 4, none⟩) (Kd.R_far (p := ⟨gb130, 3, none⟩) (Kd.R_far (p := ⟨gb130, 2, none⟩) (Kd.R_far (p := ⟨gb130, 1, none⟩) (Kd.R_far (p := ⟨gb130, 0, none⟩) (Kd.R_types HO147.out BK130.out (by decide)) (fun _ hk => hk.2) (.int .i64 t133)) (fun _ hk => hk.2) (.int .i64 t134)) (fun _ hk => hk.2) (.int .i64 t135)) (fun _ hk => hk.2) (.int .i64 t136)) (fun _ hk => hk.2) (.int .i64 t137)) (fun _ hk => hk.2) (.int .i64 t138)) (fun _ hk => hk.2) (.int .i64 t139)) (fun _ hk => hk.2) (.string t140)) (fun _ hk => trivial)⟩, ⟨by (repeat (with_reducible first | refine blk_far ?_ NB121_130.out _ | refine blk_drewN ?_ _ | refine blk_drew ?_ | refine blk_alloc ?_ _)); exact BK121.out⟩, ⟨by (with_reducible repeat (first | refine blk_drewN ?_ _ | refine blk_drew ?_ | refine blk_alloc ?_ _)); refine blk_put8 (.int .i64 x131000_1) (.int .i64 x131001_1) (.int .i64 x131002_1) (.int .i64 x131003_1) (.int .i64 x131004_1) (.int .i64 x131005_1) (.int .i64 x131006_1) (.string x131007_1) ?_; (with_reducible repeat (first | refine blk_drewN ?_ _ | refine blk_drew ?_ | refine blk_alloc ?_ _)); exact BK130.out⟩, ⟨by repeat (first | (with_reducible first | exact HB.out | apply below_alloc | apply pw_below_drewN | apply below_drew1 | refine below_set ?_ GE121.out | refine below_set ?_ GE130.out | refine below_set ?_ GE132.out | refine below_set ?_ GE144.out) | exact HB.out)⟩⟩
      ·rw [if_neg c14] at H
       exact absurd H (by simp)
     ·rw [if_neg c12] at H
      exact absurd H (by simp)
    ·rw [if_neg c11] at H
     exact absurd H (by simp)
   ·rw [if_neg c10] at H
    have c10b0 : decide (x15_1 < (l1.length : Int)) = false := decide_eq_false c10; clear c10; replace H := Option.bind_eq_some_iff.mp H; obtain ⟨t148, A400, H⟩ := H; replace H : (if x6_1.length + t148.length < 2199023255552 then (some (x6_1 ++ t148)) else (none)) = some r := H; have A40 := Aside0.mk A400; clear A400
    by_cases c41 : x6_1.length + t148.length < 2199023255552
    ·rw [if_pos c41] at H
     have LMc41 := Aside0.mk c41; clear c41; obtain ⟨y151, hy151⟩ : ∃ y_ : List (S33), y_ = (x6_1 ++ t148) := ⟨_, rfl⟩
     replace H : (some y151) = some r := by first | (rw [hy151]; with_reducible exact H) | (have H2_ := (Option.bind_some _ _).symm.trans H; rw [hy151]; with_reducible exact H2_) | (have H2_ := (Option.bind_some _ _).symm.trans H; with_reducible exact H2_) | with_reducible exact H | (rw [hy151]; exact H) | exact H
     have Ny151 := Aside0.mk hy151; clear hy151; obtain rfl := Option.some.inj H; have hnb42 := NB121_130.out; have hnc42 := NB130_121.out; have hcz43_0 : wr.cell? ⟨gb121, 0, none⟩ = some (.bool a0_0) := ck BK121 0; have hfz43_0 := blk_frozen BK121.out 0; have hcz44_0 : wr.cell? ⟨gb130, 0, none⟩ = some (.int .i64 x131000_1) := ck BK130 0; have hcz44_1 : wr.cell? ⟨gb130, 1, none⟩ = some (.int .i64 x131001_1) := ck BK130 1; have hcz44_2 : wr.cell? ⟨gb130, 2, none⟩ = some (.int .i64 x131002_1) := ck BK130 2; have hcz44_3 : wr.cell? ⟨gb130, 3, none⟩ = some (.int .i64 x131003_1) := ck BK130 3; have hcz44_4 : wr.cell? ⟨gb130, 4, none⟩ = some (.int .i64 x131004_1) := ck BK130 4; have hcz44_5 : wr.cell? ⟨gb130, 5, none⟩ = some (.int .i64 x131005_1) := ck BK130 5; have hcz44_6 : wr.cell? ⟨gb130, 6, none⟩ = some (.int .i64 x131006_1) := ck BK130 6; have hcz44_7 : wr.cell? ⟨gb130, 7, none⟩ = some (.string x131007_1) := ck BK130 7; have hfz44_0 := blk_frozen BK130.out 0; have hfz44_1 := blk_frozen BK130.out 1; have hfz44_2 := blk_frozen BK130.out 2; have hfz44_3 := blk_frozen BK130.out 3; have hfz44_4 := blk_frozen BK130.out 4; have hfz44_5 := blk_frozen BK130.out 5; have hfz44_6 := blk_frozen BK130.out 6; have hfz44_7 := blk_frozen BK130.out 7
     go_wp2_with (first | ((with_reducible refine gate_callee (f := 15) rfl ?_); refine goesL_ (some 34) rfl rfl Try.func15 (by kernel_rfl) rfl #[.agg #[.bool a0_0], .agg #[.int .i64 x131000_1, .int .i64 x131001_1, .int .i64 x131002_1, .int .i64 x131003_1, .int .i64 x131004_1, .int .i64 x131005_1, .int .i64 x131006_1, .string x131007_1]] rfl (by (try simp only [List.map_toArray, List.map_cons, List.map_nil]); first | done | rfl | (simp only [List.length_drop, List.length_take]; rfl)) ?_; (with_reducible refine (nrzi_End.calls a0_0 x131000_1 x131001_1 x131002_1 x131003_1 x131004_1 x131005_1 x131006_1 x131007_1 t148 _ A40.out).mono ?_); rintro e w45 ⟨v149, rfl, ho0, hb⟩; refine ⟨_, rfl, ?_⟩; have n0_ := Aside0.mk (Kd.R_elder' (rkw HO_6.out) (Kd.R_base ho0) hb); have n1_ := Aside0.mk (Kd.R_lower (Kd.R_new' ho0 (Kd.R_lt (rkw HO_6.out))) (below_size (hbw HB.out))); have n2_ := Aside0.mk (blkb BK121.out hb); have n3_ := Aside0.mk (blkb BK130.out hb); have n4_ := Aside0.mk (below_step (hbw HB.out) hb); clear HO_6; clear BK121; clear BK130; clear HB; have HO_6 := n0_; have HO150 := n1_; have BK121 := n2_; have BK130 := n3_; have HB := n4_; clear n0_ n1_ n2_ n3_ n4_; (try clear hb); (try clear hb2); (try clear hk); (try clear hi); (try clear ho0); obtain ⟨Ao47, co47, eo47⟩ := Kd.R_slice HO150.out; subst eo47) | ((with_reducible refine gate_builtin (b := .append) (xs := #[.tmp 31, .tmp 34]) rfl ?_); at_builtin; refine Kd.R_append_rows k33 (w0 := w) w.heap.size rfl (.tmp 31) (.tmp 34) 24 33 (.agg #[(.int .i64 0), (.int .i64 0), (.int .i64 0), (.int .i64 0), (.int .i64 0), (.string ⟨#[]⟩), (.int .i64 0)]) 64 rfl Try.underlying24 info33 rfl (by decide) (by omega) u6 x6_1 t148 _ _ _ (fun k_ => some k_ ≠ (.slice Ao47 t148.length co47 : Value).ownBlock) (fun _ => False) rfl rfl ?aO ?aR (fun _ _ h => h) (fun _ h => h.elim) ?aF ?aB ?aS ?aL ?_; (case aR => repeat (first | exact (Kd.R_reads' HO150.out).2.2 | (with_reducible refine Kd.C_alloc ?_ _) | (with_reducible refine Kd.C_drewN ?_ _) | (with_reducible refine Kd.C_drew ?_))); (case aB => exact (hbw HB.out)); (case aF => exact (fun k_ hk => Kd.fresh' (Kd.R_lt (rkw HO150.out)) k_ hk)); (case aO => exact (by (with_reducible repeat (first | apply Kd.R_alloc | apply Kd.R_drewN | apply Kd.R_drew)); exact Kd.R_mono HO_6.out (fun _ hk => hk.2))); (case aS => exact (below_size (hbw HB.out))); (case aL => have := LMc41.out; omega); intro v152 w46 ho hb hg hat; rw [← Ny151.out] at ho; have n0_ := Aside0.mk (blkg BK121.out hg (Kd.R_ne HO_6.out BK121.out (by decide))); have n1_ := Aside0.mk (blkg BK130.out hg (Kd.R_ne HO_6.out BK130.out (by decide))); have n2_ := Aside0.mk (Kd.R_after (ok := (fun _ => True)) (rkw HO150.out) hg hat); have n3_ := Aside0.mk (hb); have n4_ := Aside0.mk (ho); clear BK121; clear BK130; clear HO150; clear HB; clear HO_6; have BK121 := n0_; have BK130 := n1_; have HO150 := n2_; have HB := n3_; have HO153 := n4_; clear n0_ n1_ n2_ n3_ n4_; clear ho hb hg hat))
     go_ret
     exact ⟨_, by first | rfl | (simp [errW_none, errW_some] <;> rfl) | (simp [*, errW_none, errW_some] <;> rfl), by (with_reducible repeat (first | apply Kd.R_alloc | apply Kd.R_drewN | apply Kd.R_drew)); exact Kd.R_mono HO153.out (fun _ hk => trivial), by repeat (first | (with_reducible first | exact HB.out | apply below_alloc | apply pw_below_drewN | apply below_drew1 | refine below_set ?_ GE121.out | refine below_set ?_ GE130.out) | exact HB.out)⟩
    ·rw [if_neg c41] at H
     exact absurd H (by simp)

/-! ### nrzi_sender: function 28: by hand, with the closure that it hands back (function 33) -/
def nrzi_sender_1.f (a0_0 : Bool) (a1 a2 : Int) : Option Int := (nrzi_meaning.f a0_0 true).bind fun t => if t = a2 then some (wrap64 (1 - a1)) else some a1
set_option maxHeartbeats 8000000 in
set_option maxRecDepth 100000 in
theorem nrzi_sender.calls (a0_0 : Bool) (w : World) : Calls Try.prog 28 #[.agg #[.bool a0_0]] w fun e w' => ∃ gc gl, e = .returned (.func (.func 33) #[] #[.pointer (some ⟨gc, 0, none⟩), .pointer (some ⟨gl, 0, none⟩)]) ∧ w.heap.size ≤ gc ∧ w.heap.size ≤ gl ∧ gc ≠ gl ∧ w'.heap[gc]? = some (.cells #[.bool a0_0] 23 (0, 0)) ∧ w'.heap[gl]? = some (.cells #[.int .i64 1] 3 (0, 0)) ∧ Below w.heap.size w w' := by
 have hu23 := Try.underlying23; have HB := Aside0.mk (Below.refl w.heap.size w)
 have hmf_ : ∀ (fn : Fn) (first cap : Array Value) (w : World), (Instr.makeFunc fn first cap).run Try.prog w = .ok (.func fn first cap) w := fun _ _ _ _ => rfl
 go_enter Try.func28, Try.ntmps28
 go_wp2_with (first | ((with_reducible refine gate_dst (N := 1) rfl ?_); refine box_event ?hg (N := 1) ?hd (cs := #[.bool a0_0]) (t := 23) ?hr ?_; (case hd => rfl); (case hg => rfl); (case hr => first | (go_simp; done) | (go_simp; rfl)); intro gc hg w1 hbox hb; have n0_ := Aside0.mk (below_step (hbw HB.out) hb); have n1_ := Aside0.mk (hbox); have n2_ := Aside0.mk ((by rw [hg]; exact (below_size (hbw HB.out)) : w.heap.size ≤ gc)); clear HB; have HB := n0_; have BKc := n1_; have GEc := n2_; clear n0_ n1_ n2_; clear hb hbox hg) | ((with_reducible refine gate_dst (N := 3) rfl ?_); refine box_event ?hg (N := 3) ?hd (cs := #[.int .i64 0]) (t := 3) ?hr ?_; (case hd => rfl); (case hg => rfl); (case hr => first | (go_simp; done) | (go_simp; rfl)); intro gl hg w2 hbox hb; have n0_ := Aside0.mk (blkb BKc.out hb); have n1_ := Aside0.mk (below_step (hbw HB.out) hb); have n2_ := Aside0.mk (hbox); have n3_ := Aside0.mk ((by rw [hg]; exact (below_size (hbw HB.out)) : w.heap.size ≤ gl)); have n4_ := Aside0.mk ((by rw [hg]; exact Nat.ne_of_lt (blkl BKc.out) : gc ≠ gl)); clear BKc; clear HB; have BKc := n0_; have HB := n1_; have BKl := n2_; have GEl := n3_; have NB := n4_; clear n0_ n1_ n2_ n3_ n4_; clear hb hbox hg; have hcz0 : w2.cell? ⟨gl, 0, none⟩ = some (.int .i64 0) := ck BKl 0; have hfz0 := blk_frozen BKl.out 0))
 go_ret
 exact ⟨gc, gl, rfl, GEc.out, GEl.out, NB.out, by (with_reducible repeat (first | refine blk_drewN ?_ _ | refine blk_drew ?_ | refine blk_alloc ?_ _)); refine blk_far ?_ NB.out _; (with_reducible repeat (first | refine blk_drewN ?_ _ | refine blk_drew ?_ | refine blk_alloc ?_ _)); exact BKc.out, by (with_reducible repeat (first | refine blk_drewN ?_ _ | refine blk_drew ?_ | refine blk_alloc ?_ _)); refine blk_put (cs := #[.int .i64 0]) ?_ 0 _ rfl; (with_reducible repeat (first | refine blk_drewN ?_ _ | refine blk_drew ?_ | refine blk_alloc ?_ _)); exact BKl.out, by repeat (first | (with_reducible first | exact HB.out | apply below_alloc | apply pw_below_drewN | apply below_drew1 | refine below_set ?_ GEl.out) | exact HB.out)⟩
set_option maxHeartbeats 8000000 in
set_option maxRecDepth 100000 in
theorem nrzi_sender_1.calls (gc gl : Nat) (a0_0 : Bool) (a1 a2 r : Int) (w : World) (hc : w.heap[gc]? = some (.cells #[.bool a0_0] 23 (0, 0))) (hl : w.heap[gl]? = some (.cells #[.int .i64 a1] 3 (0, 0))) (h : nrzi_sender_1.f a0_0 a1 a2 = some r) :
  Calls Try.prog 33 #[.int .i64 a2, .pointer (some ⟨gc, 0, none⟩), .pointer (some ⟨gl, 0, none⟩)] w fun e w' => e = .returned (.int .i64 r) ∧ ∃ w0, Below w.heap.size w w0 ∧ w' = w0.setCell ⟨gl, 0, none⟩ (.int .i64 r) := by
 have hu23 := Try.underlying23; have BKc := Aside0.mk hc; have BKl := Aside0.mk hl; clear hc hl; have HB := Aside0.mk (Below.refl w.heap.size w)
 unfold nrzi_sender_1.f at h
 obtain ⟨t, A0, H⟩ := Option.bind_eq_some_iff.mp h; have A1 := Aside0.mk A0; clear A0 h; have hcx0 : w.cell? ⟨gc, 0, none⟩ = some (.bool a0_0) := ck BKc 0; have hfx0 := blk_frozen BKc.out 0
 by_cases c1 : t = a2
 · rw [if_pos c1] at H
   have c1b0 : (t == a2) = true := beq_iff_eq.mpr c1; clear c1; obtain rfl := Option.some.inj H; clear H
   go_enter Try.func33, Try.ntmps33
   go_wp2_with (first | ((with_reducible refine gate_callee (f := 26) rfl ?_); refine goesL_ (some 6) rfl rfl Try.func26 (by kernel_rfl) rfl #[.agg #[.bool a0_0], .bool true] rfl (by (try simp only [List.map_toArray, List.map_cons, List.map_nil]); first | done | rfl) ?_; (with_reducible refine (nrzi_meaning.calls a0_0 true t _ A1.out).mono ?_); rintro e w1 ⟨rfl, hb⟩; refine ⟨_, rfl, ?_⟩; have n0_ := Aside0.mk (blkb BKl.out hb); have n1_ := Aside0.mk (below_step (hbw HB.out) hb); clear BKl; clear HB; have BKl := n0_; have HB := n1_; clear n0_ n1_; clear hb; have hcz0 : w1.cell? ⟨gl, 0, none⟩ = some (.int .i64 a1) := ck BKl 0; have hfz0 := blk_frozen BKl.out 0))
   go_ret
   exact ⟨rfl, _, by repeat (first | (with_reducible first | exact HB.out | apply below_alloc | apply pw_below_drewN | apply below_drew1) | exact HB.out), rfl⟩
 · rw [if_neg c1] at H
   have c1b0 : (t == a2) = false := beq_eq_false_iff_ne.mpr c1; clear c1; obtain rfl := Option.some.inj H; clear H
   go_enter Try.func33, Try.ntmps33
   go_wp2_with (first | ((with_reducible refine gate_callee (f := 26) rfl ?_); refine goesL_ (some 6) rfl rfl Try.func26 (by kernel_rfl) rfl #[.agg #[.bool a0_0], .bool true] rfl (by (try simp only [List.map_toArray, List.map_cons, List.map_nil]); first | done | rfl) ?_; (with_reducible refine (nrzi_meaning.calls a0_0 true t _ A1.out).mono ?_); rintro e w1 ⟨rfl, hb⟩; refine ⟨_, rfl, ?_⟩; have n0_ := Aside0.mk (blkb BKl.out hb); have n1_ := Aside0.mk (below_step (hbw HB.out) hb); clear BKl; clear HB; have BKl := n0_; have HB := n1_; clear n0_ n1_; clear hb; have hcz0 : w1.cell? ⟨gl, 0, none⟩ = some (.int .i64 a1) := ck BKl 0; have hfz0 := blk_frozen BKl.out 0))
   go_ret
   exact ⟨rfl, w1, by repeat (first | (with_reducible first | exact HB.out | apply below_alloc | apply pw_below_drewN | apply below_drew1) | exact HB.out), (setCell_self _ _ _ hcz0).symm⟩

/-! ### bits_Valid: function 34 -/
mutual
def bits_Valid.j0 : Nat → ByteArray → Option (Bool)
 | 0, _ => none
 | k + 1, x0 => bits_Valid.l0 k x0 (x0.size : Int) 0
def bits_Valid.l0 : Nat → ByteArray → Int → Int → Option (Bool)
 | 0, _, _, _ => none
 | k + 1, x0, x8, x9 => if x9 < x8 then (if 0 ≤ x9 then (if x9 < (x0.size : Int) then (if (bt x0 x9) = 48 then (bits_Valid.l0 k x0 x8 (wrap64 (x9 + 1))) else (if (bt x0 x9) = 49 then (bits_Valid.l0 k x0 x8 (wrap64 (x9 + 1))) else (some false))) else (none)) else (none)) else (some true)
end
def bits_Valid.f (k : Nat) (a0 : ByteArray) : Option (Bool) := if (a0.size : Int) > 65536 then (some false) else (bits_Valid.j0 k a0)
theorem bits_Valid.mono_l : ∀ k, (∀ y0, LeO (bits_Valid.j0 k y0) (bits_Valid.j0 (k + 1) y0)) ∧ (∀ y0 y1 y2, LeO (bits_Valid.l0 k y0 y1 y2) (bits_Valid.l0 (k + 1) y0 y1 y2))
 | 0 => ⟨fun _ r h => by simp [bits_Valid.j0] at h, fun _ _ _ r h => by simp [bits_Valid.l0] at h⟩
 | k + 1 => by
  obtain ⟨ih0, ih1⟩ := bits_Valid.mono_l k; refine ⟨?_, ?_⟩
  ·intro y0
   unfold bits_Valid.j0
   repeat' first
   | (with_reducible exact ih0 _)
   | (with_reducible exact ih1 _ _ _)
   | (with_reducible exact LeO.refl _)
   | (with_reducible exact LeO.none _)
   | (with_reducible refine LeO.ite ?_ ?_)
   | (with_reducible refine LeO.bind ?_ (fun _ => ?_))
   | exact ih0 _
   | exact ih1 _ _ _
   | exact LeO.none _
   | refine LeO.ite ?_ ?_
   | refine LeO.bind ?_ (fun _ => ?_)
  ·intro y0 y1 y2
   unfold bits_Valid.l0
   repeat' first
   | (with_reducible exact ih0 _)
   | (with_reducible exact ih1 _ _ _)
   | (with_reducible exact LeO.refl _)
   | (with_reducible exact LeO.none _)
   | (with_reducible refine LeO.ite ?_ ?_)
   | (with_reducible refine LeO.bind ?_ (fun _ => ?_))
   | exact ih0 _
   | exact ih1 _ _ _
   | exact LeO.none _
   | refine LeO.ite ?_ ?_
   | refine LeO.bind ?_ (fun _ => ?_)
theorem bits_Valid.mono : ∀ a0 k, LeO (bits_Valid.f k a0) (bits_Valid.f (k + 1) a0) := by
 intro a0 k; obtain ⟨ih0, ih1⟩ := bits_Valid.mono_l k
 unfold bits_Valid.f
 repeat' first
   | (with_reducible exact ih0 _)
   | (with_reducible exact ih1 _ _ _)
   | (with_reducible exact LeO.refl _)
   | (with_reducible exact LeO.none _)
   | (with_reducible refine LeO.ite ?_ ?_)
   | (with_reducible refine LeO.bind ?_ (fun _ => ?_))
   | exact ih0 _
   | exact ih1 _ _ _
   | exact LeO.none _
   | refine LeO.ite ?_ ?_
   | refine LeO.bind ?_ (fun _ => ?_)
set_option maxHeartbeats 8000000 in
set_option maxRecDepth 100000 in
theorem bits_Valid.calls (k : Nat) (a0 : ByteArray) (r : Bool) (w : World) (h : bits_Valid.f k a0 = some r) :
  Calls Try.prog 34 #[.string a0] w fun e w' => e = .returned (.bool r) ∧ Drawn0 w w' := by
 have H : (if (a0.size : Int) > 65536 then (some false) else (bits_Valid.j0 k a0)) = some r := h; clear h; have HC2 := Aside0.mk H; clear H
 go_enter Try.func34, Try.ntmps34
 go_upto_if 6 with (fail)
 go_cut [] (fun wc => ∃ (kq : Nat), Aside0 (bits_Valid.j0 kq a0 = some r) ∧ Aside0 (kq ≤ k) ∧ Drawn0 w wc)
 case first =>
  have H := HC2.out; clear HC2
  by_cases c3 : (a0.size : Int) > 65536
  ·rw [if_pos c3] at H
   have c3b0 : decide (65536 < (a0.size : Int)) = true := decide_eq_true c3; have c3b1 : decide (65536 < a0.size) = true := decide_eq_true (by omega); clear c3
   (first | rw [c3b0] | (simp only [i64_w, i32_w]; rw [c3b0]) | skip)
   obtain rfl := Option.some.inj H
   go_wp2
   go_ret
   exact ⟨by first | rfl | (simp; done) | (simp [*]; done), by repeat (first | exact Drawn0.refl _ | apply Drawn0.step)⟩
  ·rw [if_neg c3] at H
   have c3b0 : decide (65536 < (a0.size : Int)) = false := decide_eq_false c3; have c3b1 : decide (65536 < a0.size) = false := decide_eq_false (by omega); clear c3
   (first | rw [c3b0] | (simp only [i64_w, i32_w]; rw [c3b0]) | skip)
   have H' := Aside0.mk H; clear H
   go_wp2
   go_meet
   case rel => exact ⟨_, H', ⟨by first | omega | exact Nat.le_refl _⟩, by repeat (first | exact Drawn0.refl _ | apply Drawn0.step)⟩
 case rest =>
  clear HC2
  try clear p2
  try clear c3
  try clear c3b0
  try clear c3b1
  obtain ⟨kq, HA, HJ1, ⟨mc1, rfl⟩⟩ := hcut
  cases kq with
  | zero => exact absurd HA.out (by simp [bits_Valid.j0])
  | succ kj1 =>
   have H := HA.out; clear HA
   simp only [bits_Valid.j0] at H
   have H' := Aside0.mk H; clear H
   go_wp2
   go_loopg [9] kj1 (fun kq v9 w' => ∃ (x9_2 : Int), v9 = .int .i64 x9_2 ∧ Aside0 (bits_Valid.l0 kq a0 (a0.size : Int) x9_2 = some r) ∧ Aside0 (kq ≤ kj1) ∧ Drawn0 w w')
   case atStart => exact ⟨(0), (by first | rfl | (simp; done) | (simp [*]; done)), H', ⟨Nat.le_refl _⟩, by repeat (first | exact Drawn0.refl _ | apply Drawn0.step)⟩
   case round =>
    clear H'
    try clear c1
    try clear p2
    try clear c3
    try clear c3b0
    try clear c3b1
    try clear p2
    obtain ⟨x9_2, rfl, HA, HK2, ⟨m2, rfl⟩⟩ := hrel
    cases gk with
    | zero => exact absurd HA.out (by simp [bits_Valid.l0])
    | succ k2 =>
     have H := HA.out; clear HA
     simp only [bits_Valid.l0] at H
     by_cases c4 : x9_2 < (a0.size : Int)
     ·rw [if_pos c4] at H
      have c4b0 : decide (x9_2 < (a0.size : Int)) = true := decide_eq_true c4; clear c4
      by_cases c5 : 0 ≤ x9_2
      ·rw [if_pos c5] at H
       have c5b0 : decide (0 ≤ x9_2) = true := decide_eq_true c5; clear c5
       by_cases c6 : x9_2 < (a0.size : Int)
       ·rw [if_pos c6] at H
        have c6b0 : decide (x9_2 < (a0.size : Int)) = true := decide_eq_true c6; clear c6
        by_cases c8 : (bt a0 x9_2) = 48
        ·rw [if_pos c8] at H
         have c8b0 : ((bt a0 x9_2) == 48) = true := beq_iff_eq.mpr c8; have c8b1 : ((bt a0 x9_2) != 48) = false := bne_eq_false_iff_eq.mpr c8; clear c8; have H' := Aside0.mk H; clear H; have p7 : 0 ≤ (x9_2 : Int) := of_decide_eq_true (by first | (with_reducible assumption) | assumption); have q7 : x9_2 < (a0.size : Int) := of_decide_eq_true (by first | (with_reducible assumption) | assumption); have hx7 := bt_at a0 x9_2; replace p7 := eq_true p7; replace q7 := eq_true q7
         go_wp2
         go_roundg k2
         case measure => have := HJ1.out; have := HK2.out; omega
         case rel => exact ⟨(wrap64 (x9_2 + 1)), (by first | rfl | (simp; done) | (simp [*]; done)), H', ⟨by have := HJ1.out; have := HK2.out; omega⟩, by repeat (first | exact Drawn0.refl _ | apply Drawn0.step)⟩
        ·rw [if_neg c8] at H
         have c8b0 : ((bt a0 x9_2) == 48) = false := beq_eq_false_iff_ne.mpr c8; have c8b1 : ((bt a0 x9_2) != 48) = true := bne_iff_ne.mpr c8
         by_cases c10 : (bt a0 x9_2) = 49
         ·rw [if_pos c10] at H
          have c10b0 : ((bt a0 x9_2) == 49) = true := beq_iff_eq.mpr c10; have c10b1 : ((bt a0 x9_2) != 49) = false := bne_eq_false_iff_eq.mpr c10; clear c10; have H' := Aside0.mk H; clear H; have p7 : 0 ≤ (x9_2 : Int) := of_decide_eq_true (by first | (with_reducible assumption) | assumption); have q7 : x9_2 < (a0.size : Int) := of_decide_eq_true (by first | (with_reducible assumption) | assumption); have hx7 := bt_at a0 x9_2; replace p7 := eq_true p7; replace q7 := eq_true q7; have p9 : 0 ≤ (x9_2 : Int) := of_decide_eq_true (by first | (with_reducible assumption) | assumption); have q9 : x9_2 < (a0.size : Int) := of_decide_eq_true (by first | (with_reducible assumption) | assumption); have hx9 := bt_at a0 x9_2; replace p9 := eq_true p9; replace q9 := eq_true q9
          go_wp2
          go_roundg k2
          case measure => have := HJ1.out; have := HK2.out; omega
          case rel => exact ⟨(wrap64 (x9_2 + 1)), (by first | rfl | (simp; done) | (simp [*]; done)), H', ⟨by have := HJ1.out; have := HK2.out; omega⟩, by repeat (first | exact Drawn0.refl _ | apply Drawn0.step)⟩
         ·rw [if_neg c10] at H
          have c10b0 : ((bt a0 x9_2) == 49) = false := beq_eq_false_iff_ne.mpr c10; have c10b1 : ((bt a0 x9_2) != 49) = true := bne_iff_ne.mpr c10; obtain rfl := Option.some.inj H; have p7 : 0 ≤ (x9_2 : Int) := of_decide_eq_true (by first | (with_reducible assumption) | assumption); have q7 : x9_2 < (a0.size : Int) := of_decide_eq_true (by first | (with_reducible assumption) | assumption); have hx7 := bt_at a0 x9_2; replace p7 := eq_true p7; replace q7 := eq_true q7; have p9 : 0 ≤ (x9_2 : Int) := of_decide_eq_true (by first | (with_reducible assumption) | assumption); have q9 : x9_2 < (a0.size : Int) := of_decide_eq_true (by first | (with_reducible assumption) | assumption); have hx9 := bt_at a0 x9_2; replace p9 := eq_true p9; replace q9 := eq_true q9
          go_wp2
          go_ret
          exact ⟨by first | rfl | (simp; done) | (simp [*]; done), by repeat (first | exact Drawn0.refl _ | apply Drawn0.step)⟩
       ·rw [if_neg c6] at H
        exact absurd H (by simp)
      ·rw [if_neg c5] at H
       exact absurd H (by simp)
     ·rw [if_neg c4] at H
      have c4b0 : decide (x9_2 < (a0.size : Int)) = false := decide_eq_false c4; clear c4; obtain rfl := Option.some.inj H
      go_wp2
      go_ret
      exact ⟨by first | rfl | (simp; done) | (simp [*]; done), by repeat (first | exact Drawn0.refl _ | apply Drawn0.step)⟩

end Go.Proofs.Ytjgfhccibljkbaa.PNrziDecodes
