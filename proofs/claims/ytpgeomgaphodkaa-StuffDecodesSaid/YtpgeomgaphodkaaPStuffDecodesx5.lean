-- Written by a program of this session (wip/tools/pr.py), which calls the kit's print with changes of its own.
import Derived.Test.YtpgeomgaphodkaaPStuffDecodesx0
import Derived.Test.YtpgeomgaphodkaaPStuffDecodesx2
import Derived.Test.YtpgeomgaphodkaaPStuffDecodesx4
namespace Go.Proofs.Ytpgeomgaphodkaa.PStuffDecodes
open Go.RowKit Go.Proofs.YtpgeomgaphodkaaW.PrintWords Go.Proofs.YtpgeomgaphodkaaW.PrintLast Go.Proofs.YtpgeomgaphodkaaW.PrintMore
attribute [local go_sem] max2_int min2_int max_two min_two max_three min_three max_four min_four   -- for this text's walks alone
set_option linter.unusedVariables false
set_option linter.unusedSimpArgs false

/-! ### stuff_End: function 17 -/
def stuff_End.f (a0_0 : Int) (a0_1 : Bool) (a1_0 : Int) (a1_1 : Int) (a1_2 : Int) (a1_3 : Int) (a1_4 : Int) (a1_5 : Int) (a1_6 : Int) (a1_7 : ByteArray) : Option ((List (S33))) := some ([] : List (S33))
set_option maxHeartbeats 8000000 in
set_option maxRecDepth 100000 in
theorem stuff_End.calls (a0_0 : Int) (a0_1 : Bool) (a1_0 : Int) (a1_1 : Int) (a1_2 : Int) (a1_3 : Int) (a1_4 : Int) (a1_5 : Int) (a1_6 : Int) (a1_7 : ByteArray) (r : List (S33)) (w : World) (h : stuff_End.f a0_0 a0_1 a1_0 a1_1 a1_2 a1_3 a1_4 a1_5 a1_6 a1_7 = some r) :
  Calls Try.prog 17 #[.agg #[.int .i64 a0_0, .bool a0_1], .agg #[.int .i64 a1_0, .int .i64 a1_1, .int .i64 a1_2, .int .i64 a1_3, .int .i64 a1_4, .int .i64 a1_5, .int .i64 a1_6, .string a1_7]] w fun e w' => ∃ v0_ : Value, e = .returned (v0_) ∧ Kd.R k33 33 w' w.heap.size (fun _ => True) v0_ r ∧ Below w.heap.size w w' := by
 have hu23 := Try.underlying23; have hu28 := Try.underlying28; have HB := Aside0.mk (Below.refl w.heap.size w); have H : (some ([] : List (S33))) = some r := h; clear h; obtain rfl := Option.some.inj H
 go_enter Try.func17, Try.ntmps17
 go_wp2_with (first | ((with_reducible refine gate_dst (N := 2) rfl ?_); refine box_event ?hg (N := 2) ?hd (cs := #[.int .i64 a0_0, .bool a0_1]) (t := 23) ?hr ?_; (case hd => rfl); (case hg => rfl); (case hr => first | (go_simp; done) | (go_simp; rfl)); intro gb130 hg w3 hbox hb; have n0_ := Aside0.mk (below_step (hbw HB.out) hb); have n1_ := Aside0.mk (hbox); have n2_ := bsz HB hg; have n3_ := bsz HB hg; clear HB; have HB := n0_; have BK130 := n1_; have GW130 := n2_; have GE130 := n3_; clear n0_ n1_ n2_ n3_; clear hb hbox hg) | ((with_reducible refine gate_dst (N := 3) rfl ?_); refine box_event ?hg (N := 3) ?hd (cs := #[.int .i64 a1_0, .int .i64 a1_1, .int .i64 a1_2, .int .i64 a1_3, .int .i64 a1_4, .int .i64 a1_5, .int .i64 a1_6, .string a1_7]) (t := 28) ?hr ?_; (case hd => rfl); (case hg => rfl); (case hr => first | (go_simp; done) | (go_simp; rfl)); intro gb131 hg w4 hbox hb; have n0_ := Aside0.mk (blkb BK130.out hb); have n1_ := Aside0.mk (below_step (hbw HB.out) hb); have n2_ := Aside0.mk (hbox); have n3_ := bsz HB hg; have n4_ := bsz HB hg; have n5_ := bnl BK130 hg; have n6_ := bng BK130 hg; clear BK130; clear HB; have BK130 := n0_; have HB := n1_; have BK131 := n2_; have GW131 := n3_; have GE131 := n4_; have NB130_131 := n5_; have NB131_130 := n6_; clear n0_ n1_ n2_ n3_ n4_ n5_ n6_; clear hb hbox hg))
 go_ret
 exact ⟨_, by first | rfl | (simp [errW_none, errW_some] <;> rfl) | (simp [*, errW_none, errW_some] <;> rfl), by first | exact Kd.R_nil _ _ _ _ _ | exact Kd.N_nil _ _ _ _ _ | exact Kd.V_nil _ _ _ _ _ | exact Kd.Q_nil _ _ _ _ _ | exact Kd.S_nil _ _ _ _ _, by repeat (first | (with_reducible first | exact HB.out | apply below_alloc | apply pw_below_drewN | apply below_drew1 | refine below_set ?_ GE130.out | refine below_set ?_ GE131.out) | exact HB.out)⟩

/-! ### stuff_Decode: function 18 -/
def stuff_Decode.l0 : Nat → List (S33) → List (S33) → Int → Int → Int → Bool → Int → Int → Int → Int → Int → Int → Int → ByteArray → Option ((List (S33)))
 | 0, _, _, _, _, _, _, _, _, _, _, _, _, _, _ => none
 | k + 1, x6, x13, x14, x15, x133000, x133001, x142000, x142001, x142002, x142003, x142004, x142005, x142006, x142007 => if x15 < x14 then (if 0 ≤ x15 then (if x15 < (x13.length : Int) then ((stuff_Step.f k x133000 x133001 x142000 x142001 x142002 x142003 x142004 x142005 x142006 x142007 ((rd_T33 x13 x15).f0) ((rd_T33 x13 x15).f1) ((rd_T33 x13 x15).f2) ((rd_T33 x13 x15).f3) ((rd_T33 x13 x15).f4) ((rd_T33 x13 x15).f5) ((rd_T33 x13 x15).f6)).bind fun bt144 => (if x6.length + bt144.2.2.2.2.2.2.2.2.length < 2199023255552 then (stuff_Decode.l0 k (x6 ++ bt144.2.2.2.2.2.2.2.2) x13 x14 (wrap64 (x15 + 1)) x133000 x133001 bt144.1 bt144.2.1 bt144.2.2.1 bt144.2.2.2.1 bt144.2.2.2.2.1 bt144.2.2.2.2.2.1 bt144.2.2.2.2.2.2.1 bt144.2.2.2.2.2.2.2.1) else (none))) else (none)) else (none)) else ((stuff_End.f x133000 x133001 x142000 x142001 x142002 x142003 x142004 x142005 x142006 x142007).bind fun t159 => (if x6.length + t159.length < 2199023255552 then (some (x6 ++ t159)) else (none)))
def stuff_Decode.f (k : Nat) (a0_0 : Int) (a0_1 : Bool) (l1 : List (S33)) : Option ((List (S33))) := (stuff_Start.f a0_0 a0_1).bind fun bt133 => (stuff_Decode.l0 k ([] : List (S33)) l1 (l1.length : Int) 0 a0_0 a0_1 bt133.1 bt133.2.1 bt133.2.2.1 bt133.2.2.2.1 bt133.2.2.2.2.1 bt133.2.2.2.2.2.1 bt133.2.2.2.2.2.2.1 bt133.2.2.2.2.2.2.2)
theorem stuff_Decode.mono_l : ∀ k, (∀ y0 y1 y2 y3 y4 y5 y6 y7 y8 y9 y10 y11 y12 y13, LeO (stuff_Decode.l0 k y0 y1 y2 y3 y4 y5 y6 y7 y8 y9 y10 y11 y12 y13) (stuff_Decode.l0 (k + 1) y0 y1 y2 y3 y4 y5 y6 y7 y8 y9 y10 y11 y12 y13))
 | 0 => fun _ _ _ _ _ _ _ _ _ _ _ _ _ _ r h => by simp [stuff_Decode.l0] at h
 | k + 1 => by
  have ih0 := stuff_Decode.mono_l k
  ·intro y0 y1 y2 y3 y4 y5 y6 y7 y8 y9 y10 y11 y12 y13
   unfold stuff_Decode.l0
   repeat' first
   | (with_reducible exact ih0 _ _ _ _ _ _ _ _ _ _ _ _ _ _)
   | (with_reducible exact stuff_Step.mono _ _ _ _ _ _ _ _ _ _ _ _ _ _ _ _ _ _)
   | (with_reducible exact LeO.refl _)
   | (with_reducible exact LeO.none _)
   | (with_reducible refine LeO.ite ?_ ?_)
   | (with_reducible refine LeO.bind ?_ (fun _ => ?_))
   | exact ih0 _ _ _ _ _ _ _ _ _ _ _ _ _ _
   | exact stuff_Step.mono _ _ _ _ _ _ _ _ _ _ _ _ _ _ _ _ _ _
   | exact LeO.none _
   | refine LeO.ite ?_ ?_
   | refine LeO.bind ?_ (fun _ => ?_)
theorem stuff_Decode.mono : ∀ a0 a1 a2 k, LeO (stuff_Decode.f k a0 a1 a2) (stuff_Decode.f (k + 1) a0 a1 a2) := by
 intro a0 a1 a2 k; have ih0 := stuff_Decode.mono_l k
 unfold stuff_Decode.f
 repeat' first
   | (with_reducible exact ih0 _ _ _ _ _ _ _ _ _ _ _ _ _ _)
   | (with_reducible exact stuff_Step.mono _ _ _ _ _ _ _ _ _ _ _ _ _ _ _ _ _ _)
   | (with_reducible exact LeO.refl _)
   | (with_reducible exact LeO.none _)
   | (with_reducible refine LeO.ite ?_ ?_)
   | (with_reducible refine LeO.bind ?_ (fun _ => ?_))
   | exact ih0 _ _ _ _ _ _ _ _ _ _ _ _ _ _
   | exact stuff_Step.mono _ _ _ _ _ _ _ _ _ _ _ _ _ _ _ _ _ _
   | exact LeO.none _
   | refine LeO.ite ?_ ?_
   | refine LeO.bind ?_ (fun _ => ?_)
set_option maxHeartbeats 8000000 in
set_option maxRecDepth 100000 in
theorem stuff_Decode.calls (k : Nat) (a0_0 : Int) (a0_1 : Bool) (A1 : Option Addr) (c1 : Nat) (l1 : List (S33)) (r : List (S33)) (w : World) (hr1 : Kd.C k33 w A1 l1.length l1) (hc1 : l1.length ≤ c1) (h : stuff_Decode.f k a0_0 a0_1 l1 = some r) :
  Calls Try.prog 18 #[.agg #[.int .i64 a0_0, .bool a0_1], .slice A1 l1.length c1] w fun e w' => ∃ v0_ : Value, e = .returned (v0_) ∧ Kd.R k33 33 w' w.heap.size (fun _ => True) v0_ r ∧ Below w.heap.size w w' := by
 have hu23 := Try.underlying23; have hu28 := Try.underlying28; have hu33 := Try.underlying33; have HR1 := Aside0.mk hr1; have HC1 := Aside0.mk hc1; clear hr1 hc1; have HB := Aside0.mk (Below.refl w.heap.size w); have H : ((stuff_Start.f a0_0 a0_1).bind fun bt133 => (stuff_Decode.l0 k ([] : List (S33)) l1 (l1.length : Int) 0 a0_0 a0_1 bt133.1 bt133.2.1 bt133.2.2.1 bt133.2.2.2.1 bt133.2.2.2.2.1 bt133.2.2.2.2.2.1 bt133.2.2.2.2.2.2.1 bt133.2.2.2.2.2.2.2)) = some r := h; clear h; replace H := Option.bind_eq_some_iff.mp H; obtain ⟨⟨t133, t134, t135, t136, t137, t138, t139, t140⟩, A30, H⟩ := H; replace H : (stuff_Decode.l0 k ([] : List (S33)) l1 (l1.length : Int) 0 a0_0 a0_1 t133 t134 t135 t136 t137 t138 t139 t140) = some r := H; have A3 := Aside0.mk A30; clear A30; have H' := Aside0.mk H; clear H
 go_enter Try.func18, Try.ntmps18
 go_wp2_with (first | ((with_reducible refine gate_dst (N := 2) rfl ?_); refine box_event ?hg (N := 2) ?hd (cs := #[.int .i64 a0_0, .bool a0_1]) (t := 23) ?hr ?_; (case hd => rfl); (case hg => rfl); (case hr => first | (go_simp; done) | (go_simp; rfl)); intro gb132 hg w4 hbox hb; have n0_ := Aside0.mk (below_step (hbw HB.out) hb); have n1_ := Aside0.mk (hbox); have n2_ := bsz HB hg; have n3_ := bsz HB hg; clear HB; have HB := n0_; have BK132 := n1_; have GW132 := n2_; have GE132 := n3_; clear n0_ n1_ n2_ n3_; clear hb hbox hg; have hcz5_0 : w4.cell? ⟨gb132, 0, none⟩ = some (.int .i64 a0_0) := ck BK132 0; have hcz5_1 : w4.cell? ⟨gb132, 1, none⟩ = some (.bool a0_1) := ck BK132 1; have hfz5_0 := blk_frozen BK132.out 0; have hfz5_1 := blk_frozen BK132.out 1) | ((with_reducible refine gate_callee (f := 10) rfl ?_); refine goesL_ (some 12) rfl rfl Try.func10 (by kernel_rfl) rfl #[.agg #[.int .i64 a0_0, .bool a0_1]] rfl (by (try simp only [List.map_toArray, List.map_cons, List.map_nil]); first | done | rfl | (simp only [List.length_drop, List.length_take]; rfl)) ?_; (with_reducible refine (stuff_Start.calls a0_0 a0_1 t133 t134 t135 t136 t137 t138 t139 t140 _ A3.out).mono ?_); rintro e w6 ⟨rfl, hb⟩; refine ⟨_, rfl, ?_⟩; have n0_ := Aside0.mk (blkb BK132.out hb); have n1_ := Aside0.mk (below_step (hbw HB.out) hb); clear BK132; clear HB; have BK132 := n0_; have HB := n1_; clear n0_ n1_; (try clear hb); (try clear hb2); (try clear hk); (try clear hi)) | ((with_reducible refine gate_dst (N := 5) rfl ?_); refine box_event ?hg (N := 5) ?hd (cs := #[.int .i64 0, .int .i64 0, .int .i64 0, .int .i64 0, .int .i64 0, .int .i64 0, .int .i64 0, .string (⟨#[]⟩ : ByteArray)]) (t := 28) ?hr ?_; (case hd => rfl); (case hg => rfl); (case hr => first | (go_simp; done) | (go_simp; rfl)); intro gb141 hg w7 hbox hb; have n0_ := Aside0.mk (blkb BK132.out hb); have n1_ := Aside0.mk (below_step (hbw HB.out) hb); have n2_ := Aside0.mk (hbox); have n3_ := bsz HB hg; have n4_ := bsz HB hg; have n5_ := bnl BK132 hg; have n6_ := bng BK132 hg; clear BK132; clear HB; have BK132 := n0_; have HB := n1_; have BK141 := n2_; have GW141 := n3_; have GE141 := n4_; have NB132_141 := n5_; have NB141_132 := n6_; clear n0_ n1_ n2_ n3_ n4_ n5_ n6_; clear hb hbox hg; have hnb8 := NB141_132.out; have hnc8 := NB132_141.out; have hcz9_0 : w7.cell? ⟨gb141, 0, none⟩ = some (.int .i64 0) := ck BK141 0; have hcz9_1 : w7.cell? ⟨gb141, 1, none⟩ = some (.int .i64 0) := ck BK141 1; have hcz9_2 : w7.cell? ⟨gb141, 2, none⟩ = some (.int .i64 0) := ck BK141 2; have hcz9_3 : w7.cell? ⟨gb141, 3, none⟩ = some (.int .i64 0) := ck BK141 3; have hcz9_4 : w7.cell? ⟨gb141, 4, none⟩ = some (.int .i64 0) := ck BK141 4; have hcz9_5 : w7.cell? ⟨gb141, 5, none⟩ = some (.int .i64 0) := ck BK141 5; have hcz9_6 : w7.cell? ⟨gb141, 6, none⟩ = some (.int .i64 0) := ck BK141 6; have hcz9_7 : w7.cell? ⟨gb141, 7, none⟩ = some (.string (⟨#[]⟩ : ByteArray)) := ck BK141 7; have hfz9_0 := blk_frozen BK141.out 0; have hfz9_1 := blk_frozen BK141.out 1; have hfz9_2 := blk_frozen BK141.out 2; have hfz9_3 := blk_frozen BK141.out 3; have hfz9_4 := blk_frozen BK141.out 4; have hfz9_5 := blk_frozen BK141.out 5; have hfz9_6 := blk_frozen BK141.out 6; have hfz9_7 := blk_frozen BK141.out 7))
 go_loopg [6, 15] k (fun kq v6 v15 w' => ∃ (x6_1 : List (S33)) (x15_1 : Int) (x142000_1 : Int) (x142001_1 : Int) (x142002_1 : Int) (x142003_1 : Int) (x142004_1 : Int) (x142005_1 : Int) (x142006_1 : Int) (x142007_1 : ByteArray), v15 = .int .i64 x15_1 ∧ Aside0 (stuff_Decode.l0 kq x6_1 l1 (l1.length : Int) x15_1 a0_0 a0_1 x142000_1 x142001_1 x142002_1 x142003_1 x142004_1 x142005_1 x142006_1 x142007_1 = some r) ∧ Aside0 (kq ≤ k) ∧ Aside0 (Kd.R k33 33 w' w.heap.size (fun _ => True) v6 x6_1) ∧ Aside0 (w'.heap[gb132]? = some (.cells #[.int .i64 a0_0, .bool a0_1] 23 (0, 0))) ∧ Aside0 (w'.heap[gb141]? = some (.cells #[.int .i64 x142000_1, .int .i64 x142001_1, .int .i64 x142002_1, .int .i64 x142003_1, .int .i64 x142004_1, .int .i64 x142005_1, .int .i64 x142006_1, .string x142007_1] 28 (0, 0))) ∧ Aside0 (Below w.heap.size w w'))
 case atStart => exact ⟨(([] : List (S33))), (0), (t133), (t134), (t135), (t136), (t137), (t138), (t139), (t140), (by first | rfl | (simp; done) | (simp [*]; done)), H', ⟨Nat.le_refl _⟩, ⟨by first | exact Kd.R_nil _ _ _ _ _ | exact Kd.N_nil _ _ _ _ _ | exact Kd.V_nil _ _ _ _ _ | exact Kd.Q_nil _ _ _ _ _ | exact Kd.S_nil _ _ _ _ _⟩, ⟨by (repeat (with_reducible first | refine blk_far ?_ NB132_141.out _ | refine blk_drewN ?_ _ | refine blk_drew ?_ | refine blk_alloc ?_ _)); exact BK132.out⟩, ⟨by (with_reducible repeat (first | refine blk_drewN ?_ _ | refine blk_drew ?_ | refine blk_alloc ?_ _)); refine blk_put8 (.int .i64 0) (.int .i64 0) (.int .i64 0) (.int .i64 0) (.int .i64 0) (.int .i64 0) (.int .i64 0) (.string (⟨#[]⟩ : ByteArray)) ?_; (with_reducible repeat (first | refine blk_drewN ?_ _ | refine blk_drew ?_ | refine blk_alloc ?_ _)); exact BK141.out⟩, ⟨by repeat (first | (with_reducible first | exact HB.out | apply below_alloc | apply pw_below_drewN | apply below_drew1 | refine below_set ?_ GE132.out | refine below_set ?_ GE141.out) | exact HB.out)⟩⟩
 case round =>
  clear H'
  try clear c1
  try clear p2
  try clear c8
  try clear hcz5_0
  try clear hcz5_1
  try clear hcz9_0
  try clear hcz9_1
  try clear hcz9_2
  try clear hcz9_3
  try clear hcz9_4
  try clear hcz9_5
  try clear hcz9_6
  try clear hcz9_7
  try clear hfz5_0
  try clear hfz5_1
  try clear hfz9_0
  try clear hfz9_1
  try clear hfz9_2
  try clear hfz9_3
  try clear hfz9_4
  try clear hfz9_5
  try clear hfz9_6
  try clear hfz9_7
  obtain ⟨x6_1, x15_1, x142000_1, x142001_1, x142002_1, x142003_1, x142004_1, x142005_1, x142006_1, x142007_1, rfl, HA, HK1, HO_6, BK132, BK141, HB⟩ := hrel
  cases gk with
  | zero => exact absurd HA.out (by simp [stuff_Decode.l0])
  | succ k1 =>
   have H := HA.out; clear HA
   simp only [stuff_Decode.l0] at H
   by_cases c10 : x15_1 < (l1.length : Int)
   ·rw [if_pos c10] at H
    have c10b0 : decide (x15_1 < (l1.length : Int)) = true := decide_eq_true c10; clear c10
    by_cases c11 : 0 ≤ x15_1
    ·rw [if_pos c11] at H
     have c11b0 : decide (0 ≤ x15_1) = true := decide_eq_true c11; clear c11
     by_cases c12 : x15_1 < (l1.length : Int)
     ·rw [if_pos c12] at H
      have c12b0 : decide (x15_1 < (l1.length : Int)) = true := decide_eq_true c12; clear c12; replace H := Option.bind_eq_some_iff.mp H; obtain ⟨⟨t144, t145, t146, t147, t148, t149, t150, t151, t152⟩, A130, H⟩ := H; replace H : (if x6_1.length + t152.length < 2199023255552 then (stuff_Decode.l0 k1 (x6_1 ++ t152) l1 (l1.length : Int) (wrap64 (x15_1 + 1)) a0_0 a0_1 t144 t145 t146 t147 t148 t149 t150 t151) else (none)) = some r := H; have A13 := Aside0.mk A130; clear A130
      by_cases c14 : x6_1.length + t152.length < 2199023255552
      ·rw [if_pos c14] at H
       have LMc14 := Aside0.mk c14; clear c14; obtain ⟨y156, hy156⟩ : ∃ y_ : List (S33), y_ = (x6_1 ++ t152) := ⟨_, rfl⟩
       replace H : (stuff_Decode.l0 k1 y156 l1 (l1.length : Int) (wrap64 (x15_1 + 1)) a0_0 a0_1 t144 t145 t146 t147 t148 t149 t150 t151) = some r := by first | (rw [hy156]; with_reducible exact H) | (have H2_ := (Option.bind_some _ _).symm.trans H; rw [hy156]; with_reducible exact H2_) | (have H2_ := (Option.bind_some _ _).symm.trans H; with_reducible exact H2_) | with_reducible exact H | (rw [hy156]; exact H) | exact H
       have Ny156 := Aside0.mk hy156; clear hy156; have H' := Aside0.mk H; clear H; have p142 : 0 ≤ (x15_1 : Int) := of_decide_eq_true (by first | (with_reducible assumption) | assumption); have q142 : x15_1 < (l1.length : Int) := of_decide_eq_true (by first | (with_reducible assumption) | assumption); obtain ⟨ad142, e142, hx142_0, hx142_1, hx142_2, hx142_3, hx142_4, hx142_5, hx142_6⟩ := at_T33 HR1.out x15_1 p142 q142
       cases e142
       replace hx142_0 := (HB.out.cell (World.block_lt_of_cell? w _ hx142_0)).trans hx142_0; replace hx142_1 := (HB.out.cell (World.block_lt_of_cell? w _ hx142_1)).trans hx142_1; replace hx142_2 := (HB.out.cell (World.block_lt_of_cell? w _ hx142_2)).trans hx142_2; replace hx142_3 := (HB.out.cell (World.block_lt_of_cell? w _ hx142_3)).trans hx142_3; replace hx142_4 := (HB.out.cell (World.block_lt_of_cell? w _ hx142_4)).trans hx142_4; replace hx142_5 := (HB.out.cell (World.block_lt_of_cell? w _ hx142_5)).trans hx142_5; replace hx142_6 := (HB.out.cell (World.block_lt_of_cell? w _ hx142_6)).trans hx142_6; replace p142 := eq_true p142; replace q142 := eq_true q142
       try go_wp2_with (first | ((with_reducible refine gate_dst (N := 8) rfl ?_); refine box_event ?hg (N := 8) ?hd (cs := #[.int .i64 0, .int .i64 0, .int .i64 0, .int .i64 0, .int .i64 0, .string (⟨#[]⟩ : ByteArray), .int .i64 0]) (t := 33) ?hr ?_; (case hd => rfl); (case hg => rfl); (case hr => first | (go_simp; done) | (go_simp; rfl)); intro gb143 hg w15 hbox hb; have n0_ := Aside0.mk (Kd.R_below (Kd.R_elderB (rkw HO_6.out) gb143 (Nat.le_of_eq hg.symm)) hb); have n1_ := Aside0.mk (blkb BK132.out hb); have n2_ := Aside0.mk (blkb BK141.out hb); have n3_ := Aside0.mk (below_step (hbw HB.out) hb); have n4_ := Aside0.mk (hbox); have n5_ := bsz HB hg; have n6_ := bsz HB hg; have n7_ := bnl BK132 hg; have n8_ := bng BK132 hg; have n9_ := bnl BK141 hg; have n10_ := bng BK141 hg; clear HO_6; clear BK132; clear BK141; clear HB; have HO_6 := n0_; have BK132 := n1_; have BK141 := n2_; have HB := n3_; have BK143 := n4_; have GW143 := n5_; have GE143 := n6_; have NB132_143 := n7_; have NB143_132 := n8_; have NB141_143 := n9_; have NB143_141 := n10_; clear n0_ n1_ n2_ n3_ n4_ n5_ n6_ n7_ n8_ n9_ n10_; clear hb hbox hg; have hnb16 := NB143_132.out; have hnc16 := NB132_143.out; have hnb17 := NB143_141.out; have hnc17 := NB141_143.out; have hcz18_0 : w15.cell? ⟨gb143, 0, none⟩ = some (.int .i64 0) := ck BK143 0; have hcz18_1 : w15.cell? ⟨gb143, 1, none⟩ = some (.int .i64 0) := ck BK143 1; have hcz18_2 : w15.cell? ⟨gb143, 2, none⟩ = some (.int .i64 0) := ck BK143 2; have hcz18_3 : w15.cell? ⟨gb143, 3, none⟩ = some (.int .i64 0) := ck BK143 3; have hcz18_4 : w15.cell? ⟨gb143, 4, none⟩ = some (.int .i64 0) := ck BK143 4; have hcz18_5 : w15.cell? ⟨gb143, 5, none⟩ = some (.string (⟨#[]⟩ : ByteArray)) := ck BK143 5; have hcz18_6 : w15.cell? ⟨gb143, 6, none⟩ = some (.int .i64 0) := ck BK143 6; have hfz18_0 := blk_frozen BK143.out 0; have hfz18_1 := blk_frozen BK143.out 1; have hfz18_2 := blk_frozen BK143.out 2; have hfz18_3 := blk_frozen BK143.out 3; have hfz18_4 := blk_frozen BK143.out 4; have hfz18_5 := blk_frozen BK143.out 5; have hfz18_6 := blk_frozen BK143.out 6; have hnb19 := NB132_141.out; have hnc19 := NB141_132.out; have hcz20_0 : w15.cell? ⟨gb132, 0, none⟩ = some (.int .i64 a0_0) := ck BK132 0; have hcz20_1 : w15.cell? ⟨gb132, 1, none⟩ = some (.bool a0_1) := ck BK132 1; have hfz20_0 := blk_frozen BK132.out 0; have hfz20_1 := blk_frozen BK132.out 1; have hcz21_0 : w15.cell? ⟨gb141, 0, none⟩ = some (.int .i64 x142000_1) := ck BK141 0; have hcz21_1 : w15.cell? ⟨gb141, 1, none⟩ = some (.int .i64 x142001_1) := ck BK141 1; have hcz21_2 : w15.cell? ⟨gb141, 2, none⟩ = some (.int .i64 x142002_1) := ck BK141 2; have hcz21_3 : w15.cell? ⟨gb141, 3, none⟩ = some (.int .i64 x142003_1) := ck BK141 3; have hcz21_4 : w15.cell? ⟨gb141, 4, none⟩ = some (.int .i64 x142004_1) := ck BK141 4; have hcz21_5 : w15.cell? ⟨gb141, 5, none⟩ = some (.int .i64 x142005_1) := ck BK141 5; have hcz21_6 : w15.cell? ⟨gb141, 6, none⟩ = some (.int .i64 x142006_1) := ck BK141 6; have hcz21_7 : w15.cell? ⟨gb141, 7, none⟩ = some (.string x142007_1) := ck BK141 7; have hfz21_0 := blk_frozen BK141.out 0; have hfz21_1 := blk_frozen BK141.out 1; have hfz21_2 := blk_frozen BK141.out 2; have hfz21_3 := blk_frozen BK141.out 3; have hfz21_4 := blk_frozen BK141.out 4; have hfz21_5 := blk_frozen BK141.out 5; have hfz21_6 := blk_frozen BK141.out 6; have hfz21_7 := blk_frozen BK141.out 7) | ((with_reducible refine gate_callee (f := 12) rfl ?_); refine goesL_ (some 23) rfl rfl Try.func12 (by kernel_rfl) rfl #[.agg #[.int .i64 a0_0, .bool a0_1], .agg #[.int .i64 x142000_1, .int .i64 x142001_1, .int .i64 x142002_1, .int .i64 x142003_1, .int .i64 x142004_1, .int .i64 x142005_1, .int .i64 x142006_1, .string x142007_1], .agg #[.int .i64 ((rd_T33 l1 x15_1).f0), .int .i64 ((rd_T33 l1 x15_1).f1), .int .i64 ((rd_T33 l1 x15_1).f2), .int .i64 ((rd_T33 l1 x15_1).f3), .int .i64 ((rd_T33 l1 x15_1).f4), .string ((rd_T33 l1 x15_1).f5), .int .i64 ((rd_T33 l1 x15_1).f6)]] rfl (by (try simp only [List.map_toArray, List.map_cons, List.map_nil]); first | done | rfl | (simp only [List.length_drop, List.length_take]; rfl)) ?_; (with_reducible refine (stuff_Step.calls k1 a0_0 a0_1 x142000_1 x142001_1 x142002_1 x142003_1 x142004_1 x142005_1 x142006_1 x142007_1 ((rd_T33 l1 x15_1).f0) ((rd_T33 l1 x15_1).f1) ((rd_T33 l1 x15_1).f2) ((rd_T33 l1 x15_1).f3) ((rd_T33 l1 x15_1).f4) ((rd_T33 l1 x15_1).f5) ((rd_T33 l1 x15_1).f6) t144 t145 t146 t147 t148 t149 t150 t151 t152 _ A13.out).mono ?_); rintro e w22 ⟨v153, rfl, ho0, hb⟩; refine ⟨_, rfl, ?_⟩; have n0_ := Aside0.mk (Kd.R_elder' (by (with_reducible repeat (first | apply Kd.R_alloc | apply Kd.R_drewN | apply Kd.R_drew)); exact (Kd.R_mono (Kd.R_far (p := ⟨gb143, 6, none⟩) (Kd.R_far (p := ⟨gb143, 5, none⟩) (Kd.R_far (p := ⟨gb143, 4, none⟩) (Kd.R_far (p := ⟨gb143, 3, none⟩) (Kd.R_far (p := ⟨gb143, 2, none⟩) (Kd.R_far (p := ⟨gb143, 1, none⟩) (Kd.R_far (p := ⟨gb143, 0, none⟩) (Kd.R_mono HO_6.out (fun k_ hk => (⟨hk, hk.2⟩ : _ ∧ k_ ≠ gb143))) (fun _ hk => hk.2) (.int .i64 ((rd_T33 l1 x15_1).f0))) (fun _ hk => hk.2) (.int .i64 ((rd_T33 l1 x15_1).f1))) (fun _ hk => hk.2) (.int .i64 ((rd_T33 l1 x15_1).f2))) (fun _ hk => hk.2) (.int .i64 ((rd_T33 l1 x15_1).f3))) (fun _ hk => hk.2) (.int .i64 ((rd_T33 l1 x15_1).f4))) (fun _ hk => hk.2) (.string ((rd_T33 l1 x15_1).f5))) (fun _ hk => hk.2) (.int .i64 ((rd_T33 l1 x15_1).f6))) (fun _ h_ => h_.1))) (Kd.R_base ho0) hb); have n1_ := Aside0.mk (Kd.R_lower (Kd.R_newB (Kd.R_new' ho0 (Kd.R_lt (by (with_reducible repeat (first | apply Kd.R_alloc | apply Kd.R_drewN | apply Kd.R_drew)); exact (Kd.R_mono (Kd.R_far (p := ⟨gb143, 6, none⟩) (Kd.R_far (p := ⟨gb143, 5, none⟩) (Kd.R_far (p := ⟨gb143, 4, none⟩) (Kd.R_far (p := ⟨gb143, 3, none⟩) (Kd.R_far (p := ⟨gb143, 2, none⟩) (Kd.R_far (p := ⟨gb143, 1, none⟩) (Kd.R_far (p := ⟨gb143, 0, none⟩) (Kd.R_mono HO_6.out (fun k_ hk => (⟨hk, hk.2⟩ : _ ∧ k_ ≠ gb143))) (fun _ hk => hk.2) (.int .i64 ((rd_T33 l1 x15_1).f0))) (fun _ hk => hk.2) (.int .i64 ((rd_T33 l1 x15_1).f1))) (fun _ hk => hk.2) (.int .i64 ((rd_T33 l1 x15_1).f2))) (fun _ hk => hk.2) (.int .i64 ((rd_T33 l1 x15_1).f3))) (fun _ hk => hk.2) (.int .i64 ((rd_T33 l1 x15_1).f4))) (fun _ hk => hk.2) (.string ((rd_T33 l1 x15_1).f5))) (fun _ hk => hk.2) (.int .i64 ((rd_T33 l1 x15_1).f6))) (fun _ h_ => h_.1))))) (g := gb143) (o := .cells #[.int .i64 ((rd_T33 l1 x15_1).f0), .int .i64 ((rd_T33 l1 x15_1).f1), .int .i64 ((rd_T33 l1 x15_1).f2), .int .i64 ((rd_T33 l1 x15_1).f3), .int .i64 ((rd_T33 l1 x15_1).f4), .string ((rd_T33 l1 x15_1).f5), .int .i64 ((rd_T33 l1 x15_1).f6)] 33 (0, 0)) (by (with_reducible repeat (first | refine blk_drewN ?_ _ | refine blk_drew ?_ | refine blk_alloc ?_ _)); refine blk_put7 (.int .i64 0) (.int .i64 0) (.int .i64 0) (.int .i64 0) (.int .i64 0) (.string (⟨#[]⟩ : ByteArray)) (.int .i64 0) ?_; (with_reducible repeat (first | refine blk_drewN ?_ _ | refine blk_drew ?_ | refine blk_alloc ?_ _)); exact BK143.out)) (below_size (hbw HB.out))); have n2_ := Aside0.mk (blk_below (g := gb132) (o := .cells #[.int .i64 a0_0, .bool a0_1] 23 (0, 0)) (by (repeat (with_reducible first | refine blk_far ?_ NB132_143.out _ | refine blk_drewN ?_ _ | refine blk_drew ?_ | refine blk_alloc ?_ _)); exact BK132.out) hb); have n3_ := Aside0.mk (blk_below (g := gb141) (o := .cells #[.int .i64 x142000_1, .int .i64 x142001_1, .int .i64 x142002_1, .int .i64 x142003_1, .int .i64 x142004_1, .int .i64 x142005_1, .int .i64 x142006_1, .string x142007_1] 28 (0, 0)) (by (repeat (with_reducible first | refine blk_far ?_ NB141_143.out _ | refine blk_drewN ?_ _ | refine blk_drew ?_ | refine blk_alloc ?_ _)); exact BK141.out) hb); have n4_ := Aside0.mk (blk_below (g := gb143) (o := .cells #[.int .i64 ((rd_T33 l1 x15_1).f0), .int .i64 ((rd_T33 l1 x15_1).f1), .int .i64 ((rd_T33 l1 x15_1).f2), .int .i64 ((rd_T33 l1 x15_1).f3), .int .i64 ((rd_T33 l1 x15_1).f4), .string ((rd_T33 l1 x15_1).f5), .int .i64 ((rd_T33 l1 x15_1).f6)] 33 (0, 0)) (by (with_reducible repeat (first | refine blk_drewN ?_ _ | refine blk_drew ?_ | refine blk_alloc ?_ _)); refine blk_put7 (.int .i64 0) (.int .i64 0) (.int .i64 0) (.int .i64 0) (.int .i64 0) (.string (⟨#[]⟩ : ByteArray)) (.int .i64 0) ?_; (with_reducible repeat (first | refine blk_drewN ?_ _ | refine blk_drew ?_ | refine blk_alloc ?_ _)); exact BK143.out) hb); have n5_ := Aside0.mk (below_step (hbw HB.out) hb); clear HO_6; clear BK132; clear BK141; clear BK143; clear HB; have HO_6 := n0_; have HO154 := n1_; have BK132 := n2_; have BK141 := n3_; have BK143 := n4_; have HB := n5_; clear n0_ n1_ n2_ n3_ n4_ n5_; (try clear hb); (try clear hb2); (try clear hk); (try clear hi); (try clear ho0)) | ((with_reducible refine gate_dst (N := 9) rfl ?_); refine box_event ?hg (N := 9) ?hd (cs := #[.int .i64 0, .int .i64 0, .int .i64 0, .int .i64 0, .int .i64 0, .int .i64 0, .int .i64 0, .string (⟨#[]⟩ : ByteArray)]) (t := 28) ?hr ?_; (case hd => rfl); (case hg => rfl); (case hr => first | (go_simp; done) | (go_simp; rfl)); intro gb155 hg w23 hbox hb; have n0_ := Aside0.mk (Kd.R_below (rkw HO_6.out) hb); have n1_ := Aside0.mk (Kd.R_below (rkw HO154.out) hb); have n2_ := Aside0.mk (blkb BK132.out hb); have n3_ := Aside0.mk (blkb BK141.out hb); have n4_ := Aside0.mk (blkb BK143.out hb); have n5_ := Aside0.mk (below_step (hbw HB.out) hb); have n6_ := Aside0.mk (hbox); have n7_ := bsz HB hg; have n8_ := bsz HB hg; have n9_ := bnl BK132 hg; have n10_ := bng BK132 hg; have n11_ := bnl BK141 hg; have n12_ := bng BK141 hg; have n13_ := bnl BK143 hg; have n14_ := bng BK143 hg; clear HO_6; clear HO154; clear BK132; clear BK141; clear BK143; clear HB; have HO_6 := n0_; have HO154 := n1_; have BK132 := n2_; have BK141 := n3_; have BK143 := n4_; have HB := n5_; have BK155 := n6_; have GW155 := n7_; have GE155 := n8_; have NB132_155 := n9_; have NB155_132 := n10_; have NB141_155 := n11_; have NB155_141 := n12_; have NB143_155 := n13_; have NB155_143 := n14_; clear n0_ n1_ n2_ n3_ n4_ n5_ n6_ n7_ n8_ n9_ n10_ n11_ n12_ n13_ n14_; clear hb hbox hg; have hnb24 := NB155_132.out; have hnc24 := NB132_155.out; have hnb25 := NB155_141.out; have hnc25 := NB141_155.out; have hnb26 := NB155_143.out; have hnc26 := NB143_155.out; have hcz27_0 : w23.cell? ⟨gb155, 0, none⟩ = some (.int .i64 0) := ck BK155 0; have hcz27_1 : w23.cell? ⟨gb155, 1, none⟩ = some (.int .i64 0) := ck BK155 1; have hcz27_2 : w23.cell? ⟨gb155, 2, none⟩ = some (.int .i64 0) := ck BK155 2; have hcz27_3 : w23.cell? ⟨gb155, 3, none⟩ = some (.int .i64 0) := ck BK155 3; have hcz27_4 : w23.cell? ⟨gb155, 4, none⟩ = some (.int .i64 0) := ck BK155 4; have hcz27_5 : w23.cell? ⟨gb155, 5, none⟩ = some (.int .i64 0) := ck BK155 5; have hcz27_6 : w23.cell? ⟨gb155, 6, none⟩ = some (.int .i64 0) := ck BK155 6; have hcz27_7 : w23.cell? ⟨gb155, 7, none⟩ = some (.string (⟨#[]⟩ : ByteArray)) := ck BK155 7; have hfz27_0 := blk_frozen BK155.out 0; have hfz27_1 := blk_frozen BK155.out 1; have hfz27_2 := blk_frozen BK155.out 2; have hfz27_3 := blk_frozen BK155.out 3; have hfz27_4 := blk_frozen BK155.out 4; have hfz27_5 := blk_frozen BK155.out 5; have hfz27_6 := blk_frozen BK155.out 6; have hfz27_7 := blk_frozen BK155.out 7))
       have n0_ : Aside0 (Kd.R k33 33 ((((((((w23.setCell ⟨gb155, 0, none⟩ (.int .i64 t144)).setCell ⟨gb155, 1, none⟩ (.int .i64 t145)).setCell ⟨gb155, 2, none⟩ (.int .i64 t146)).setCell ⟨gb155, 3, none⟩ (.int .i64 t147)).setCell ⟨gb155, 4, none⟩ (.int .i64 t148)).setCell ⟨gb155, 5, none⟩ (.int .i64 t149)).setCell ⟨gb155, 6, none⟩ (.int .i64 t150)).setCell ⟨gb155, 7, none⟩ (.string t151)) w.heap.size (fun k_ => some k_ ≠ (v153 : Value).ownBlock ∧ k_ ≠ gb143) u6 x6_1) := ⟨by (with_reducible repeat (first | apply Kd.R_alloc | apply Kd.R_drewN | apply Kd.R_drew)); exact Kd.R_mono (Kd.R_far (p := ⟨gb155, 7, none⟩) (Kd.R_far (p := ⟨gb155, 6, none⟩) (Kd.R_far (p := ⟨gb155, 5, none⟩) (Kd.R_far (p := ⟨gb155, 4, none⟩) (Kd.R_far (p := ⟨gb155, 3, none⟩) (Kd.R_far (p := ⟨gb155, 2, none⟩) (Kd.R_far (p := ⟨gb155, 1, none⟩) (Kd.R_far (p := ⟨gb155, 0, none⟩) (Kd.R_types HO_6.out BK155.out (by decide)) (fun _ hk => hk.2) (.int .i64 t144)) (fun _ hk => hk.2) (.int .i64 t145)) (fun _ hk => hk.2) (.int .i64 t146)) (fun _ hk => hk.2) (.int .i64 t147)) (fun _ hk => hk.2) (.int .i64 t148)) (fun _ hk => hk.2) (.int .i64 t149)) (fun _ hk => hk.2) (.int .i64 t150)) (fun _ hk => hk.2) (.string t151)) (fun _ hk => ⟨hk.1.2, hk.1.1.2⟩)⟩; have n1_ : Aside0 (Kd.R k33 33 ((((((((w23.setCell ⟨gb155, 0, none⟩ (.int .i64 t144)).setCell ⟨gb155, 1, none⟩ (.int .i64 t145)).setCell ⟨gb155, 2, none⟩ (.int .i64 t146)).setCell ⟨gb155, 3, none⟩ (.int .i64 t147)).setCell ⟨gb155, 4, none⟩ (.int .i64 t148)).setCell ⟨gb155, 5, none⟩ (.int .i64 t149)).setCell ⟨gb155, 6, none⟩ (.int .i64 t150)).setCell ⟨gb155, 7, none⟩ (.string t151)) w.heap.size (fun k_ => some k_ ≠ (u6 : Value).ownBlock ∧ k_ ≠ gb143) v153 t152) := ⟨by (with_reducible repeat (first | apply Kd.R_alloc | apply Kd.R_drewN | apply Kd.R_drew)); exact Kd.R_mono (Kd.R_far (p := ⟨gb155, 7, none⟩) (Kd.R_far (p := ⟨gb155, 6, none⟩) (Kd.R_far (p := ⟨gb155, 5, none⟩) (Kd.R_far (p := ⟨gb155, 4, none⟩) (Kd.R_far (p := ⟨gb155, 3, none⟩) (Kd.R_far (p := ⟨gb155, 2, none⟩) (Kd.R_far (p := ⟨gb155, 1, none⟩) (Kd.R_far (p := ⟨gb155, 0, none⟩) (Kd.R_types HO154.out BK155.out (by decide)) (fun _ hk => hk.2) (.int .i64 t144)) (fun _ hk => hk.2) (.int .i64 t145)) (fun _ hk => hk.2) (.int .i64 t146)) (fun _ hk => hk.2) (.int .i64 t147)) (fun _ hk => hk.2) (.int .i64 t148)) (fun _ hk => hk.2) (.int .i64 t149)) (fun _ hk => hk.2) (.int .i64 t150)) (fun _ hk => hk.2) (.string t151)) (fun _ hk => ⟨hk.1.1.2, hk.1.2⟩)⟩; have n2_ : Aside0 (((((((((w23.setCell ⟨gb155, 0, none⟩ (.int .i64 t144)).setCell ⟨gb155, 1, none⟩ (.int .i64 t145)).setCell ⟨gb155, 2, none⟩ (.int .i64 t146)).setCell ⟨gb155, 3, none⟩ (.int .i64 t147)).setCell ⟨gb155, 4, none⟩ (.int .i64 t148)).setCell ⟨gb155, 5, none⟩ (.int .i64 t149)).setCell ⟨gb155, 6, none⟩ (.int .i64 t150)).setCell ⟨gb155, 7, none⟩ (.string t151)).heap[gb132]? = some (.cells #[.int .i64 a0_0, .bool a0_1] 23 (0, 0))) := ⟨by (repeat (with_reducible first | refine blk_far ?_ NB132_155.out _ | refine blk_drewN ?_ _ | refine blk_drew ?_ | refine blk_alloc ?_ _)); exact BK132.out⟩
       have n3_ : Aside0 (((((((((w23.setCell ⟨gb155, 0, none⟩ (.int .i64 t144)).setCell ⟨gb155, 1, none⟩ (.int .i64 t145)).setCell ⟨gb155, 2, none⟩ (.int .i64 t146)).setCell ⟨gb155, 3, none⟩ (.int .i64 t147)).setCell ⟨gb155, 4, none⟩ (.int .i64 t148)).setCell ⟨gb155, 5, none⟩ (.int .i64 t149)).setCell ⟨gb155, 6, none⟩ (.int .i64 t150)).setCell ⟨gb155, 7, none⟩ (.string t151)).heap[gb141]? = some (.cells #[.int .i64 x142000_1, .int .i64 x142001_1, .int .i64 x142002_1, .int .i64 x142003_1, .int .i64 x142004_1, .int .i64 x142005_1, .int .i64 x142006_1, .string x142007_1] 28 (0, 0))) := ⟨by (repeat (with_reducible first | refine blk_far ?_ NB141_155.out _ | refine blk_drewN ?_ _ | refine blk_drew ?_ | refine blk_alloc ?_ _)); exact BK141.out⟩; have n4_ : Aside0 (((((((((w23.setCell ⟨gb155, 0, none⟩ (.int .i64 t144)).setCell ⟨gb155, 1, none⟩ (.int .i64 t145)).setCell ⟨gb155, 2, none⟩ (.int .i64 t146)).setCell ⟨gb155, 3, none⟩ (.int .i64 t147)).setCell ⟨gb155, 4, none⟩ (.int .i64 t148)).setCell ⟨gb155, 5, none⟩ (.int .i64 t149)).setCell ⟨gb155, 6, none⟩ (.int .i64 t150)).setCell ⟨gb155, 7, none⟩ (.string t151)).heap[gb143]? = some (.cells #[.int .i64 ((rd_T33 l1 x15_1).f0), .int .i64 ((rd_T33 l1 x15_1).f1), .int .i64 ((rd_T33 l1 x15_1).f2), .int .i64 ((rd_T33 l1 x15_1).f3), .int .i64 ((rd_T33 l1 x15_1).f4), .string ((rd_T33 l1 x15_1).f5), .int .i64 ((rd_T33 l1 x15_1).f6)] 33 (0, 0))) := ⟨by (repeat (with_reducible first | refine blk_far ?_ NB143_155.out _ | refine blk_drewN ?_ _ | refine blk_drew ?_ | refine blk_alloc ?_ _)); exact BK143.out⟩; have n5_ : Aside0 (((((((((w23.setCell ⟨gb155, 0, none⟩ (.int .i64 t144)).setCell ⟨gb155, 1, none⟩ (.int .i64 t145)).setCell ⟨gb155, 2, none⟩ (.int .i64 t146)).setCell ⟨gb155, 3, none⟩ (.int .i64 t147)).setCell ⟨gb155, 4, none⟩ (.int .i64 t148)).setCell ⟨gb155, 5, none⟩ (.int .i64 t149)).setCell ⟨gb155, 6, none⟩ (.int .i64 t150)).setCell ⟨gb155, 7, none⟩ (.string t151)).heap[gb155]? = some (.cells #[.int .i64 t144, .int .i64 t145, .int .i64 t146, .int .i64 t147, .int .i64 t148, .int .i64 t149, .int .i64 t150, .string t151] 28 (0, 0))) := ⟨by (with_reducible repeat (first | refine blk_drewN ?_ _ | refine blk_drew ?_ | refine blk_alloc ?_ _)); refine blk_put8 (.int .i64 0) (.int .i64 0) (.int .i64 0) (.int .i64 0) (.int .i64 0) (.int .i64 0) (.int .i64 0) (.string (⟨#[]⟩ : ByteArray)) ?_; (with_reducible repeat (first | refine blk_drewN ?_ _ | refine blk_drew ?_ | refine blk_alloc ?_ _)); exact BK155.out⟩; have n6_ : Aside0 (Below w.heap.size w ((((((((w23.setCell ⟨gb155, 0, none⟩ (.int .i64 t144)).setCell ⟨gb155, 1, none⟩ (.int .i64 t145)).setCell ⟨gb155, 2, none⟩ (.int .i64 t146)).setCell ⟨gb155, 3, none⟩ (.int .i64 t147)).setCell ⟨gb155, 4, none⟩ (.int .i64 t148)).setCell ⟨gb155, 5, none⟩ (.int .i64 t149)).setCell ⟨gb155, 6, none⟩ (.int .i64 t150)).setCell ⟨gb155, 7, none⟩ (.string t151))) := ⟨by repeat (first | (with_reducible first | exact HB.out | apply below_alloc | apply pw_below_drewN | apply below_drew1 | refine below_set ?_ GE132.out | refine below_set ?_ GE141.out | refine below_set ?_ GE143.out | refine below_set ?_ GE155.out) | exact HB.out)⟩
       (try clear HO_6); (try clear HO154); (try clear BK132); (try clear BK141); (try clear BK143); (try clear BK155); (try clear HB)
       generalize ((((((((w23.setCell ⟨gb155, 0, none⟩ (.int .i64 t144)).setCell ⟨gb155, 1, none⟩ (.int .i64 t145)).setCell ⟨gb155, 2, none⟩ (.int .i64 t146)).setCell ⟨gb155, 3, none⟩ (.int .i64 t147)).setCell ⟨gb155, 4, none⟩ (.int .i64 t148)).setCell ⟨gb155, 5, none⟩ (.int .i64 t149)).setCell ⟨gb155, 6, none⟩ (.int .i64 t150)).setCell ⟨gb155, 7, none⟩ (.string t151)) = w28 at n0_ n1_ n2_ n3_ n4_ n5_ n6_ ⊢
       have HO_6 := n0_; have HO154 := n1_; have BK132 := n2_; have BK141 := n3_; have BK143 := n4_; have BK155 := n5_; have HB := n6_; clear n0_ n1_ n2_ n3_ n4_ n5_ n6_; have n0_ := Aside0.mk (Kd.R_drew HO_6.out); have n1_ := Aside0.mk (Kd.R_drew HO154.out); have n2_ := Aside0.mk (blk_drew BK132.out); have n3_ := Aside0.mk (blk_drew BK141.out); have n4_ := Aside0.mk (blk_drew BK143.out); have n5_ := Aside0.mk (blk_drew BK155.out); have n6_ := Aside0.mk (below_drew1 HB.out); clear HO_6; clear HO154; clear BK132; clear BK141; clear BK143; clear BK155; clear HB; have HO_6 := n0_; have HO154 := n1_; have BK132 := n2_; have BK141 := n3_; have BK143 := n4_; have BK155 := n5_; have HB := n6_; clear n0_ n1_ n2_ n3_ n4_ n5_ n6_; obtain ⟨Ao31, co31, eo31⟩ := Kd.R_slice HO154.out
       (first | subst eo31 | (injection eo31 with f1_ f2_ f3_; have f4_ := f1_.symm; have f5_ := f3_.symm; clear f1_ f2_ f3_; subst f4_; subst f5_))
       refine start_ (n := 6) (S := fun w' => w'.cell? ⟨gb155, 0, none⟩ = some (.int .i64 t144) ∧ w'.cell? ⟨gb155, 1, none⟩ = some (.int .i64 t145) ∧ w'.cell? ⟨gb155, 2, none⟩ = some (.int .i64 t146) ∧ w'.cell? ⟨gb155, 3, none⟩ = some (.int .i64 t147) ∧ w'.cell? ⟨gb155, 4, none⟩ = some (.int .i64 t148) ∧ w'.cell? ⟨gb155, 5, none⟩ = some (.int .i64 t149) ∧ w'.cell? ⟨gb155, 6, none⟩ = some (.int .i64 t150) ∧ w'.cell? ⟨gb155, 7, none⟩ = some (.string t151)) (ds := []) #[N_,N_,N_,N_,N_,N_] (by kernel_rfl) rfl rfl ⟨ck BK155 0, ck BK155 1, ck BK155 2, ck BK155 3, ck BK155 4, ck BK155 5, ck BK155 6, ck BK155 7⟩ (fun hHeld => ?_)
       generalize w28.drew = w29 at HO_6 HO154 BK132 BK141 BK143 BK155 HB hHeld ⊢
       refine pure_ (i := 1) (N := some 27) (v := ?_) (a' := ?_) #[N_,Y_,N_,N_,N_,N_] rfl rfl (by kernel_rfl) (fun _ _ _ h => h) (Or.inl ⟨by rfl, ?_⟩) ?_ ?_; rotate_left
       ·intro w'
        go_simp
        with_reducible rfl
       rotate_left
       ·simp only [Act.put, nrm]
        rfl
       refine pure_ (i := 2) (N := some 28) (v := ?_) (a' := ?_) #[N_,Y_,Y_,N_,N_,N_] rfl rfl (by kernel_rfl) (fun _ _ _ h => h) (Or.inl ⟨by rfl, ?_⟩) ?_ ?_; rotate_left
       ·intro w'
        go_simp
        with_reducible rfl
       rotate_left
       ·simp only [Act.put, nrm]
        rfl
       refine take_ (i := 0) (N := some 26) (v := ?_) (a' := ?_) #[Y_,Y_,Y_,N_,N_,N_] rfl rfl (by kernel_rfl) (fun _ _ _ h => h) (Or.inl ⟨by rfl, ?_⟩) hHeld ?_ ?_; rotate_left
       ·rintro w' ⟨s0, s1, s2, s3, s4, s5, s6, s7⟩
        go_simp
        with_reducible rfl
       rotate_left
       ·simp only [Act.put, nrm]
        rfl
       refine one_ (i := 3) (N := some 29) #[Y_,Y_,Y_,Y_,N_,N_] rfl rfl (by kernel_rfl) (by decide) (fun K hK => ?_); refine Kd.R_append_rows_step k33 (w0 := w) w.heap.size (by rfl) (.tmp 27) (.tmp 28) 24 33 (.agg #[(.int .i64 0), (.int .i64 0), (.int .i64 0), (.int .i64 0), (.int .i64 0), (.string ⟨#[]⟩), (.int .i64 0)]) 64 rfl Try.underlying24 info33 rfl (by decide) (by omega) u6 x6_1 t152 _ _ _ (fun k_ => some k_ ≠ (.slice Ao31 t152.length co31 : Value).ownBlock ∧ k_ ≠ gb143) (fun _ => False) rfl rfl ?aO ?aR (fun _ _ h => h) (fun _ h => h.elim) ?aF ?aB ?aS ?aL ?_
       (case aR => repeat (first | exact (Kd.R_reads' HO154.out).2.2 | (with_reducible refine Kd.C_alloc ?_ _) | (with_reducible refine Kd.C_drewN ?_ _) | (with_reducible refine Kd.C_drew ?_)))
       (case aB => exact (hbw HB.out))
       (case aF => exact (fun k_ hk => ⟨Kd.fresh' (Kd.R_lt (rkw HO154.out)) k_ hk, Kd.freshB (g := gb143) (o := .cells #[.int .i64 ((rd_T33 l1 x15_1).f0), .int .i64 ((rd_T33 l1 x15_1).f1), .int .i64 ((rd_T33 l1 x15_1).f2), .int .i64 ((rd_T33 l1 x15_1).f3), .int .i64 ((rd_T33 l1 x15_1).f4), .string ((rd_T33 l1 x15_1).f5), .int .i64 ((rd_T33 l1 x15_1).f6)] 33 (0, 0)) (bkw BK143.out) k_ hk⟩))
       (case aO => exact (rkw HO_6.out))
       (case aS => exact (below_size (hbw HB.out)))
       (case aL => have := LMc14.out; omega)
       intro v157 w30 ho hb hg hat
       rw [← Ny156.out] at ho
       have n0_ := Aside0.mk (blkg BK132.out hg (Kd.R_ne HO_6.out BK132.out (by decide))); have n1_ := Aside0.mk (blkg BK141.out hg (Kd.R_ne HO_6.out BK141.out (by decide))); have n2_ := Aside0.mk (blkg BK143.out hg (Kd.R_away HO_6.out (fun _ hk => hk.2))); have n3_ := Aside0.mk (Kd.R_after (ok := (fun k_ => k_ ≠ gb143)) (by (with_reducible repeat (first | apply Kd.R_alloc | apply Kd.R_drewN | apply Kd.R_drew)); exact Kd.R_mono HO154.out (fun _ hk => ⟨hk.2, hk.1⟩)) hg hat); have n4_ := Aside0.mk (blkg BK155.out hg (Kd.R_ne HO_6.out BK155.out (by decide))); have n5_ := Aside0.mk (hb); have n6_ := Aside0.mk (ho); clear BK132; clear BK141; clear BK143; clear HO154; clear BK155; clear HB; clear HO_6; have BK132 := n0_; have BK141 := n1_; have BK143 := n2_; have HO154 := n3_; have BK155 := n4_; have HB := n5_; have HO158 := n6_; clear n0_ n1_ n2_ n3_ n4_ n5_ n6_; clear ho hb hg hat; refine hK.out _ _ ⟨ck BK155 0, ck BK155 1, ck BK155 2, ck BK155 3, ck BK155 4, ck BK155 5, ck BK155 6, ck BK155 7⟩ (fun hHeld => ?_); clear hK K; refine norm_ (a' := ?_) ?_ ?_; rotate_left
       ·show Act.put _ (some 29) _ = _
        simp only [Act.put, nrm]
        rfl
       refine one_ (i := 4) (N := none) #[Y_,Y_,Y_,Y_,Y_,N_] rfl rfl (by kernel_rfl) (by decide) (fun K hK => ?_); have hs32 : w30.cell? ⟨gb141, 0, none⟩ = some (.int .i64 x142000_1) := ck BK141 0; have hfs32 := blk_frozen BK141.out 0; have := NB132_141.out; have := NB143_141.out; have := NB155_141.out; have := NB141_132.out; have := NB141_143.out; have := NB141_155.out; have hs33 : w30.cell? ⟨gb141, 1, none⟩ = some (.int .i64 x142001_1) := ck BK141 1; have hfs33 := blk_frozen BK141.out 1; have := NB132_141.out; have := NB143_141.out; have := NB155_141.out; have := NB141_132.out; have := NB141_143.out; have := NB141_155.out; have hs34 : w30.cell? ⟨gb141, 2, none⟩ = some (.int .i64 x142002_1) := ck BK141 2; have hfs34 := blk_frozen BK141.out 2; have := NB132_141.out; have := NB143_141.out; have := NB155_141.out; have := NB141_132.out; have := NB141_143.out; have := NB141_155.out; have hs35 : w30.cell? ⟨gb141, 3, none⟩ = some (.int .i64 x142003_1) := ck BK141 3; have hfs35 := blk_frozen BK141.out 3; have := NB132_141.out; have := NB143_141.out; have := NB155_141.out; have := NB141_132.out; have := NB141_143.out; have := NB141_155.out; have hs36 : w30.cell? ⟨gb141, 4, none⟩ = some (.int .i64 x142004_1) := ck BK141 4; have hfs36 := blk_frozen BK141.out 4; have := NB132_141.out; have := NB143_141.out; have := NB155_141.out; have := NB141_132.out; have := NB141_143.out; have := NB141_155.out; have hs37 : w30.cell? ⟨gb141, 5, none⟩ = some (.int .i64 x142005_1) := ck BK141 5; have hfs37 := blk_frozen BK141.out 5; have := NB132_141.out; have := NB143_141.out; have := NB155_141.out; have := NB141_132.out; have := NB141_143.out; have := NB141_155.out; have hs38 : w30.cell? ⟨gb141, 6, none⟩ = some (.int .i64 x142006_1) := ck BK141 6; have hfs38 := blk_frozen BK141.out 6; have := NB132_141.out; have := NB143_141.out; have := NB155_141.out; have := NB141_132.out; have := NB141_143.out; have := NB141_155.out; have hs39 : w30.cell? ⟨gb141, 7, none⟩ = some (.string x142007_1) := ck BK141 7; have hfs39 := blk_frozen BK141.out 7; have := NB132_141.out; have := NB143_141.out; have := NB155_141.out; have := NB141_132.out; have := NB141_143.out; have := NB141_155.out; refine skip_ (w1 := ?_) (by rfl) rfl ?_ ?_; rotate_left
       ·go_simp
        rfl
       refine hK.out _ _ ⟨((far8 (g := gb141) NB155_141.out).trans (hHeld.1)), ((far8 (g := gb141) NB155_141.out).trans (hHeld.2.1)), ((far8 (g := gb141) NB155_141.out).trans (hHeld.2.2.1)), ((far8 (g := gb141) NB155_141.out).trans (hHeld.2.2.2.1)), ((far8 (g := gb141) NB155_141.out).trans (hHeld.2.2.2.2.1)), ((far8 (g := gb141) NB155_141.out).trans (hHeld.2.2.2.2.2.1)), ((far8 (g := gb141) NB155_141.out).trans (hHeld.2.2.2.2.2.2.1)), ((far8 (g := gb141) NB155_141.out).trans (hHeld.2.2.2.2.2.2.2))⟩ (fun hHeld => ?_); clear hK K; refine pure_ (i := 5) (N := some 6) (v := ?_) (a' := ?_) #[Y_,Y_,Y_,Y_,Y_,Y_] rfl rfl (by kernel_rfl) (fun _ _ _ h => h) (Or.inl ⟨by rfl, ?_⟩) ?_ ?_; rotate_left
       ·intro w'
        go_simp
        with_reducible rfl
       rotate_left
       ·simp only [Act.put, nrm]
        rfl
       refine done_ (by kernel_rfl) ?_
       try go_wp2
       go_roundg k1
       case measure => have := HK1.out; omega
       case rel => exact ⟨(y156), (wrap64 (x15_1 + 1)), (t144), (t145), (t146), (t147), (t148), (t149), (t150), (t151), (by first | rfl | (simp; done) | (simp [*]; done)), H', ⟨by have := HK1.out; omega⟩, ⟨by (with_reducible repeat (first | apply Kd.R_alloc | apply Kd.R_drewN | apply Kd.R_drew)); exact Kd.R_mono (Kd.R_far (p := ⟨gb141, 7, none⟩) (Kd.R_far (p := ⟨gb141, 6, none⟩) (Kd.R_far (p := ⟨gb141, 5, none⟩) (Kd.R_far (p := ⟨gb141, 4, none⟩) (Kd.R_far (p := ⟨gb141, 3, none⟩) (Kd.R_far (p := ⟨gb141, 2, none⟩) (Kd.R_far (p := ⟨gb141, 1, none⟩) (Kd.R_far (p := ⟨gb141, 0, none⟩) (Kd.R_types HO158.out BK141.out (by decide)) (fun _ hk => hk.2) (.int .i64 t144)) (fun _ hk => hk.2) (.int .i64 t145)) (fun _ hk => hk.2) (.int .i64 t146)) (fun _ hk => hk.2) (.int .i64 t147)) (fun _ hk => hk.2) (.int .i64 t148)) (fun _ hk => hk.2) (.int .i64 t149)) (fun _ hk => hk.2) (.int .i64 t150)) (fun _ hk => hk.2) (.string t151)) (fun _ hk => trivial)⟩, ⟨by (repeat (with_reducible first | refine blk_far ?_ NB132_141.out _ | refine blk_drewN ?_ _ | refine blk_drew ?_ | refine blk_alloc ?_ _)); exact BK132.out⟩, ⟨by (with_reducible repeat (first | refine blk_drewN ?_ _ | refine blk_drew ?_ | refine blk_alloc ?_ _)); refine blk_put8 (.int .i64 x142000_1) (.int .i64 x142001_1) (.int .i64 x142002_1) (.int .i64 x142003_1) (.int .i64 x142004_1) (.int .i64 x142005_1) (.int .i64 x142006_1) (.string x142007_1) ?_; (with_reducible repeat (first | refine blk_drewN ?_ _ | refine blk_drew ?_ | refine blk_alloc ?_ _)); exact BK141.out⟩, ⟨by repeat (first | (with_reducible first | exact HB.out | apply below_alloc | apply pw_below_drewN | apply below_drew1 | refine below_set ?_ GE132.out | refine below_set ?_ GE141.out | refine below_set ?_ GE143.out | refine below_set ?_ GE155.out) | exact HB.out)⟩⟩
      ·rw [if_neg c14] at H
       exact absurd H (by simp)
     ·rw [if_neg c12] at H
      exact absurd H (by simp)
    ·rw [if_neg c11] at H
     exact absurd H (by simp)
   ·rw [if_neg c10] at H
    have c10b0 : decide (x15_1 < (l1.length : Int)) = false := decide_eq_false c10; clear c10; replace H := Option.bind_eq_some_iff.mp H; obtain ⟨t159, A400, H⟩ := H; replace H : (if x6_1.length + t159.length < 2199023255552 then (some (x6_1 ++ t159)) else (none)) = some r := H; have A40 := Aside0.mk A400; clear A400
    by_cases c41 : x6_1.length + t159.length < 2199023255552
    ·rw [if_pos c41] at H
     have LMc41 := Aside0.mk c41; clear c41; obtain ⟨y162, hy162⟩ : ∃ y_ : List (S33), y_ = (x6_1 ++ t159) := ⟨_, rfl⟩
     replace H : (some y162) = some r := by first | (rw [hy162]; with_reducible exact H) | (have H2_ := (Option.bind_some _ _).symm.trans H; rw [hy162]; with_reducible exact H2_) | (have H2_ := (Option.bind_some _ _).symm.trans H; with_reducible exact H2_) | with_reducible exact H | (rw [hy162]; exact H) | exact H
     have Ny162 := Aside0.mk hy162; clear hy162; obtain rfl := Option.some.inj H; have hnb42 := NB132_141.out; have hnc42 := NB141_132.out; have hcz43_0 : wr.cell? ⟨gb132, 0, none⟩ = some (.int .i64 a0_0) := ck BK132 0; have hcz43_1 : wr.cell? ⟨gb132, 1, none⟩ = some (.bool a0_1) := ck BK132 1; have hfz43_0 := blk_frozen BK132.out 0; have hfz43_1 := blk_frozen BK132.out 1; have hcz44_0 : wr.cell? ⟨gb141, 0, none⟩ = some (.int .i64 x142000_1) := ck BK141 0; have hcz44_1 : wr.cell? ⟨gb141, 1, none⟩ = some (.int .i64 x142001_1) := ck BK141 1; have hcz44_2 : wr.cell? ⟨gb141, 2, none⟩ = some (.int .i64 x142002_1) := ck BK141 2; have hcz44_3 : wr.cell? ⟨gb141, 3, none⟩ = some (.int .i64 x142003_1) := ck BK141 3; have hcz44_4 : wr.cell? ⟨gb141, 4, none⟩ = some (.int .i64 x142004_1) := ck BK141 4; have hcz44_5 : wr.cell? ⟨gb141, 5, none⟩ = some (.int .i64 x142005_1) := ck BK141 5; have hcz44_6 : wr.cell? ⟨gb141, 6, none⟩ = some (.int .i64 x142006_1) := ck BK141 6; have hcz44_7 : wr.cell? ⟨gb141, 7, none⟩ = some (.string x142007_1) := ck BK141 7; have hfz44_0 := blk_frozen BK141.out 0; have hfz44_1 := blk_frozen BK141.out 1; have hfz44_2 := blk_frozen BK141.out 2; have hfz44_3 := blk_frozen BK141.out 3; have hfz44_4 := blk_frozen BK141.out 4; have hfz44_5 := blk_frozen BK141.out 5; have hfz44_6 := blk_frozen BK141.out 6; have hfz44_7 := blk_frozen BK141.out 7
     go_wp2_with (first | ((with_reducible refine gate_callee (f := 17) rfl ?_); refine goesL_ (some 34) rfl rfl Try.func17 (by kernel_rfl) rfl #[.agg #[.int .i64 a0_0, .bool a0_1], .agg #[.int .i64 x142000_1, .int .i64 x142001_1, .int .i64 x142002_1, .int .i64 x142003_1, .int .i64 x142004_1, .int .i64 x142005_1, .int .i64 x142006_1, .string x142007_1]] rfl (by (try simp only [List.map_toArray, List.map_cons, List.map_nil]); first | done | rfl | (simp only [List.length_drop, List.length_take]; rfl)) ?_; (with_reducible refine (stuff_End.calls a0_0 a0_1 x142000_1 x142001_1 x142002_1 x142003_1 x142004_1 x142005_1 x142006_1 x142007_1 t159 _ A40.out).mono ?_); rintro e w45 ⟨v160, rfl, ho0, hb⟩; refine ⟨_, rfl, ?_⟩; have n0_ := Aside0.mk (Kd.R_elder' (rkw HO_6.out) (Kd.R_base ho0) hb); have n1_ := Aside0.mk (Kd.R_lower (Kd.R_new' ho0 (Kd.R_lt (rkw HO_6.out))) (below_size (hbw HB.out))); have n2_ := Aside0.mk (blkb BK132.out hb); have n3_ := Aside0.mk (blkb BK141.out hb); have n4_ := Aside0.mk (below_step (hbw HB.out) hb); clear HO_6; clear BK132; clear BK141; clear HB; have HO_6 := n0_; have HO161 := n1_; have BK132 := n2_; have BK141 := n3_; have HB := n4_; clear n0_ n1_ n2_ n3_ n4_; (try clear hb); (try clear hb2); (try clear hk); (try clear hi); (try clear ho0); obtain ⟨Ao47, co47, eo47⟩ := Kd.R_slice HO161.out; subst eo47) | ((with_reducible refine gate_builtin (b := .append) (xs := #[.tmp 31, .tmp 34]) rfl ?_); at_builtin; refine Kd.R_append_rows k33 (w0 := w) w.heap.size rfl (.tmp 31) (.tmp 34) 24 33 (.agg #[(.int .i64 0), (.int .i64 0), (.int .i64 0), (.int .i64 0), (.int .i64 0), (.string ⟨#[]⟩), (.int .i64 0)]) 64 rfl Try.underlying24 info33 rfl (by decide) (by omega) u6 x6_1 t159 _ _ _ (fun k_ => some k_ ≠ (.slice Ao47 t159.length co47 : Value).ownBlock) (fun _ => False) rfl rfl ?aO ?aR (fun _ _ h => h) (fun _ h => h.elim) ?aF ?aB ?aS ?aL ?_; (case aR => repeat (first | exact (Kd.R_reads' HO161.out).2.2 | (with_reducible refine Kd.C_alloc ?_ _) | (with_reducible refine Kd.C_drewN ?_ _) | (with_reducible refine Kd.C_drew ?_))); (case aB => exact (hbw HB.out)); (case aF => exact (fun k_ hk => Kd.fresh' (Kd.R_lt (rkw HO161.out)) k_ hk)); (case aO => exact (by (with_reducible repeat (first | apply Kd.R_alloc | apply Kd.R_drewN | apply Kd.R_drew)); exact Kd.R_mono HO_6.out (fun _ hk => hk.2))); (case aS => exact (below_size (hbw HB.out))); (case aL => have := LMc41.out; omega); intro v163 w46 ho hb hg hat; rw [← Ny162.out] at ho; have n0_ := Aside0.mk (blkg BK132.out hg (Kd.R_ne HO_6.out BK132.out (by decide))); have n1_ := Aside0.mk (blkg BK141.out hg (Kd.R_ne HO_6.out BK141.out (by decide))); have n2_ := Aside0.mk (Kd.R_after (ok := (fun _ => True)) (rkw HO161.out) hg hat); have n3_ := Aside0.mk (hb); have n4_ := Aside0.mk (ho); clear BK132; clear BK141; clear HO161; clear HB; clear HO_6; have BK132 := n0_; have BK141 := n1_; have HO161 := n2_; have HB := n3_; have HO164 := n4_; clear n0_ n1_ n2_ n3_ n4_; clear ho hb hg hat))
     go_ret
     exact ⟨_, by first | rfl | (simp [errW_none, errW_some] <;> rfl) | (simp [*, errW_none, errW_some] <;> rfl), by (with_reducible repeat (first | apply Kd.R_alloc | apply Kd.R_drewN | apply Kd.R_drew)); exact Kd.R_mono HO164.out (fun _ hk => trivial), by repeat (first | (with_reducible first | exact HB.out | apply below_alloc | apply pw_below_drewN | apply below_drew1 | refine below_set ?_ GE132.out | refine below_set ?_ GE141.out) | exact HB.out)⟩
    ·rw [if_neg c41] at H
     exact absurd H (by simp)

/-! ### bits_Valid: function 35 -/
mutual
def bits_Valid.j0 : Nat → ByteArray → Option (Bool)
 | 0, _ => none
 | k + 1, x0 => bits_Valid.l0 k x0 (x0.size : Int) 0
def bits_Valid.l0 : Nat → ByteArray → Int → Int → Option (Bool)
 | 0, _, _, _ => none
 | k + 1, x0, x8, x9 => if x9 < x8 then (if 0 ≤ x9 then (if x9 < (x0.size : Int) then (if (bt x0 x9) = 48 then (bits_Valid.l0 k x0 x8 (wrap64 (x9 + 1))) else (if (bt x0 x9) = 49 then (bits_Valid.l0 k x0 x8 (wrap64 (x9 + 1))) else (some false))) else (none)) else (none)) else (some true)
end
def bits_Valid.f (k : Nat) (a0 : ByteArray) : Option (Bool) := if (a0.size : Int) > 65536 then (some false) else (bits_Valid.j0 k a0)
theorem bits_Valid.mono_l : ∀ k, (∀ y0, LeO (bits_Valid.j0 k y0) (bits_Valid.j0 (k + 1) y0)) ∧ (∀ y0 y1 y2, LeO (bits_Valid.l0 k y0 y1 y2) (bits_Valid.l0 (k + 1) y0 y1 y2))
 | 0 => ⟨fun _ r h => by simp [bits_Valid.j0] at h, fun _ _ _ r h => by simp [bits_Valid.l0] at h⟩
 | k + 1 => by
  obtain ⟨ih0, ih1⟩ := bits_Valid.mono_l k; refine ⟨?_, ?_⟩
  ·intro y0
   unfold bits_Valid.j0
   repeat' first
   | (with_reducible exact ih0 _)
   | (with_reducible exact ih1 _ _ _)
   | (with_reducible exact LeO.refl _)
   | (with_reducible exact LeO.none _)
   | (with_reducible refine LeO.ite ?_ ?_)
   | (with_reducible refine LeO.bind ?_ (fun _ => ?_))
   | exact ih0 _
   | exact ih1 _ _ _
   | exact LeO.none _
   | refine LeO.ite ?_ ?_
   | refine LeO.bind ?_ (fun _ => ?_)
  ·intro y0 y1 y2
   unfold bits_Valid.l0
   repeat' first
   | (with_reducible exact ih0 _)
   | (with_reducible exact ih1 _ _ _)
   | (with_reducible exact LeO.refl _)
   | (with_reducible exact LeO.none _)
   | (with_reducible refine LeO.ite ?_ ?_)
   | (with_reducible refine LeO.bind ?_ (fun _ => ?_))
   | exact ih0 _
   | exact ih1 _ _ _
   | exact LeO.none _
   | refine LeO.ite ?_ ?_
   | refine LeO.bind ?_ (fun _ => ?_)
theorem bits_Valid.mono : ∀ a0 k, LeO (bits_Valid.f k a0) (bits_Valid.f (k + 1) a0) := by
 intro a0 k; obtain ⟨ih0, ih1⟩ := bits_Valid.mono_l k
 unfold bits_Valid.f
 repeat' first
   | (with_reducible exact ih0 _)
   | (with_reducible exact ih1 _ _ _)
   | (with_reducible exact LeO.refl _)
   | (with_reducible exact LeO.none _)
   | (with_reducible refine LeO.ite ?_ ?_)
   | (with_reducible refine LeO.bind ?_ (fun _ => ?_))
   | exact ih0 _
   | exact ih1 _ _ _
   | exact LeO.none _
   | refine LeO.ite ?_ ?_
   | refine LeO.bind ?_ (fun _ => ?_)
set_option maxHeartbeats 8000000 in
set_option maxRecDepth 100000 in
theorem bits_Valid.calls (k : Nat) (a0 : ByteArray) (r : Bool) (w : World) (h : bits_Valid.f k a0 = some r) :
  Calls Try.prog 35 #[.string a0] w fun e w' => e = .returned (.bool r) ∧ Drawn0 w w' := by
 have H : (if (a0.size : Int) > 65536 then (some false) else (bits_Valid.j0 k a0)) = some r := h; clear h; have HC2 := Aside0.mk H; clear H
 go_enter Try.func35, Try.ntmps35
 go_upto_if 6 with (fail)
 go_cut [] (fun wc => ∃ (kq : Nat), Aside0 (bits_Valid.j0 kq a0 = some r) ∧ Aside0 (kq ≤ k) ∧ Drawn0 w wc)
 case first =>
  have H := HC2.out; clear HC2
  by_cases c3 : (a0.size : Int) > 65536
  ·rw [if_pos c3] at H
   have c3b0 : decide (65536 < (a0.size : Int)) = true := decide_eq_true c3; have c3b1 : decide (65536 < a0.size) = true := decide_eq_true (by omega); clear c3
   (first | rw [c3b0] | (simp only [i64_w, i32_w]; rw [c3b0]) | skip)
   obtain rfl := Option.some.inj H
   go_wp2
   go_ret
   exact ⟨by first | rfl | (simp; done) | (simp [*]; done), by repeat (first | exact Drawn0.refl _ | apply Drawn0.step)⟩
  ·rw [if_neg c3] at H
   have c3b0 : decide (65536 < (a0.size : Int)) = false := decide_eq_false c3; have c3b1 : decide (65536 < a0.size) = false := decide_eq_false (by omega); clear c3
   (first | rw [c3b0] | (simp only [i64_w, i32_w]; rw [c3b0]) | skip)
   have H' := Aside0.mk H; clear H
   go_wp2
   go_meet
   case rel => exact ⟨_, H', ⟨by first | omega | exact Nat.le_refl _⟩, by repeat (first | exact Drawn0.refl _ | apply Drawn0.step)⟩
 case rest =>
  clear HC2
  try clear p2
  try clear c3
  try clear c3b0
  try clear c3b1
  obtain ⟨kq, HA, HJ1, ⟨mc1, rfl⟩⟩ := hcut
  cases kq with
  | zero => exact absurd HA.out (by simp [bits_Valid.j0])
  | succ kj1 =>
   have H := HA.out; clear HA
   simp only [bits_Valid.j0] at H
   have H' := Aside0.mk H; clear H
   go_wp2
   go_loopg [9] kj1 (fun kq v9 w' => ∃ (x9_2 : Int), v9 = .int .i64 x9_2 ∧ Aside0 (bits_Valid.l0 kq a0 (a0.size : Int) x9_2 = some r) ∧ Aside0 (kq ≤ kj1) ∧ Drawn0 w w')
   case atStart => exact ⟨(0), (by first | rfl | (simp; done) | (simp [*]; done)), H', ⟨Nat.le_refl _⟩, by repeat (first | exact Drawn0.refl _ | apply Drawn0.step)⟩
   case round =>
    clear H'
    try clear c1
    try clear p2
    try clear c3
    try clear c3b0
    try clear c3b1
    try clear p2
    obtain ⟨x9_2, rfl, HA, HK2, ⟨m2, rfl⟩⟩ := hrel
    cases gk with
    | zero => exact absurd HA.out (by simp [bits_Valid.l0])
    | succ k2 =>
     have H := HA.out; clear HA
     simp only [bits_Valid.l0] at H
     by_cases c4 : x9_2 < (a0.size : Int)
     ·rw [if_pos c4] at H
      have c4b0 : decide (x9_2 < (a0.size : Int)) = true := decide_eq_true c4; clear c4
      by_cases c5 : 0 ≤ x9_2
      ·rw [if_pos c5] at H
       have c5b0 : decide (0 ≤ x9_2) = true := decide_eq_true c5; clear c5
       by_cases c6 : x9_2 < (a0.size : Int)
       ·rw [if_pos c6] at H
        have c6b0 : decide (x9_2 < (a0.size : Int)) = true := decide_eq_true c6; clear c6
        by_cases c8 : (bt a0 x9_2) = 48
        ·rw [if_pos c8] at H
         have c8b0 : ((bt a0 x9_2) == 48) = true := beq_iff_eq.mpr c8; have c8b1 : ((bt a0 x9_2) != 48) = false := bne_eq_false_iff_eq.mpr c8; clear c8; have H' := Aside0.mk H; clear H; have p7 : 0 ≤ (x9_2 : Int) := of_decide_eq_true (by first | (with_reducible assumption) | assumption); have q7 : x9_2 < (a0.size : Int) := of_decide_eq_true (by first | (with_reducible assumption) | assumption); have hx7 := bt_at a0 x9_2; replace p7 := eq_true p7; replace q7 := eq_true q7
         go_wp2
         go_roundg k2
         case measure => have := HJ1.out; have := HK2.out; omega
         case rel => exact ⟨(wrap64 (x9_2 + 1)), (by first | rfl | (simp; done) | (simp [*]; done)), H', ⟨by have := HJ1.out; have := HK2.out; omega⟩, by repeat (first | exact Drawn0.refl _ | apply Drawn0.step)⟩
        ·rw [if_neg c8] at H
         have c8b0 : ((bt a0 x9_2) == 48) = false := beq_eq_false_iff_ne.mpr c8; have c8b1 : ((bt a0 x9_2) != 48) = true := bne_iff_ne.mpr c8
         by_cases c10 : (bt a0 x9_2) = 49
         ·rw [if_pos c10] at H
          have c10b0 : ((bt a0 x9_2) == 49) = true := beq_iff_eq.mpr c10; have c10b1 : ((bt a0 x9_2) != 49) = false := bne_eq_false_iff_eq.mpr c10; clear c10; have H' := Aside0.mk H; clear H; have p7 : 0 ≤ (x9_2 : Int) := of_decide_eq_true (by first | (with_reducible assumption) | assumption); have q7 : x9_2 < (a0.size : Int) := of_decide_eq_true (by first | (with_reducible assumption) | assumption); have hx7 := bt_at a0 x9_2; replace p7 := eq_true p7; replace q7 := eq_true q7; have p9 : 0 ≤ (x9_2 : Int) := of_decide_eq_true (by first | (with_reducible assumption) | assumption); have q9 : x9_2 < (a0.size : Int) := of_decide_eq_true (by first | (with_reducible assumption) | assumption); have hx9 := bt_at a0 x9_2; replace p9 := eq_true p9; replace q9 := eq_true q9
          go_wp2
          go_roundg k2
          case measure => have := HJ1.out; have := HK2.out; omega
          case rel => exact ⟨(wrap64 (x9_2 + 1)), (by first | rfl | (simp; done) | (simp [*]; done)), H', ⟨by have := HJ1.out; have := HK2.out; omega⟩, by repeat (first | exact Drawn0.refl _ | apply Drawn0.step)⟩
         ·rw [if_neg c10] at H
          have c10b0 : ((bt a0 x9_2) == 49) = false := beq_eq_false_iff_ne.mpr c10; have c10b1 : ((bt a0 x9_2) != 49) = true := bne_iff_ne.mpr c10; obtain rfl := Option.some.inj H; have p7 : 0 ≤ (x9_2 : Int) := of_decide_eq_true (by first | (with_reducible assumption) | assumption); have q7 : x9_2 < (a0.size : Int) := of_decide_eq_true (by first | (with_reducible assumption) | assumption); have hx7 := bt_at a0 x9_2; replace p7 := eq_true p7; replace q7 := eq_true q7; have p9 : 0 ≤ (x9_2 : Int) := of_decide_eq_true (by first | (with_reducible assumption) | assumption); have q9 : x9_2 < (a0.size : Int) := of_decide_eq_true (by first | (with_reducible assumption) | assumption); have hx9 := bt_at a0 x9_2; replace p9 := eq_true p9; replace q9 := eq_true q9
          go_wp2
          go_ret
          exact ⟨by first | rfl | (simp; done) | (simp [*]; done), by repeat (first | exact Drawn0.refl _ | apply Drawn0.step)⟩
       ·rw [if_neg c6] at H
        exact absurd H (by simp)
      ·rw [if_neg c5] at H
       exact absurd H (by simp)
     ·rw [if_neg c4] at H
      have c4b0 : decide (x9_2 < (a0.size : Int)) = false := decide_eq_false c4; clear c4; obtain rfl := Option.some.inj H
      go_wp2
      go_ret
      exact ⟨by first | rfl | (simp; done) | (simp [*]; done), by repeat (first | exact Drawn0.refl _ | apply Drawn0.step)⟩

/-! ### stuff_check: function 29 -/
def stuff_check.j0 : Nat → Bool → Int → Int → Int → ByteArray → Int → Option (Int)
 | 0, _, _, _, _, _, _ => none
 | k + 1, x3, x166000, x166001, x166002, x166003, x166004 => if x3 = true then (some 1) else (if (x166003.size : Int) > 4096 then (some 6) else ((bits_Valid.f k x166003).bind fun t166 => (if t166 = true then (if x166004 = 0 then (some 0) else (if x166004 = 4 then (some 0) else (some 1))) else (some 4))))
def stuff_check.f (k : Nat) (a0_0 : Int) (a0_1 : Int) (a0_2 : Int) (a0_3 : ByteArray) (a0_4 : Int) : Option (Int) := if a0_0 < 0 then (stuff_check.j0 k true a0_0 a0_1 a0_2 a0_3 a0_4) else (stuff_check.j0 k (decide (a0_0 > 1048576)) a0_0 a0_1 a0_2 a0_3 a0_4)
theorem stuff_check.mono_l : ∀ k, (∀ y0 y1 y2 y3 y4 y5, LeO (stuff_check.j0 k y0 y1 y2 y3 y4 y5) (stuff_check.j0 (k + 1) y0 y1 y2 y3 y4 y5))
 | 0 => fun _ _ _ _ _ _ r h => by simp [stuff_check.j0] at h
 | k + 1 => by
  have ih0 := stuff_check.mono_l k
  ·intro y0 y1 y2 y3 y4 y5
   unfold stuff_check.j0
   repeat' first
   | (with_reducible exact ih0 _ _ _ _ _ _)
   | (with_reducible exact bits_Valid.mono _ _)
   | (with_reducible exact LeO.refl _)
   | (with_reducible exact LeO.none _)
   | (with_reducible refine LeO.ite ?_ ?_)
   | (with_reducible refine LeO.bind ?_ (fun _ => ?_))
   | exact ih0 _ _ _ _ _ _
   | exact bits_Valid.mono _ _
   | exact LeO.none _
   | refine LeO.ite ?_ ?_
   | refine LeO.bind ?_ (fun _ => ?_)
theorem stuff_check.mono : ∀ a0 a1 a2 a3 a4 k, LeO (stuff_check.f k a0 a1 a2 a3 a4) (stuff_check.f (k + 1) a0 a1 a2 a3 a4) := by
 intro a0 a1 a2 a3 a4 k; have ih0 := stuff_check.mono_l k
 unfold stuff_check.f
 repeat' first
   | (with_reducible exact ih0 _ _ _ _ _ _)
   | (with_reducible exact bits_Valid.mono _ _)
   | (with_reducible exact LeO.refl _)
   | (with_reducible exact LeO.none _)
   | (with_reducible refine LeO.ite ?_ ?_)
   | (with_reducible refine LeO.bind ?_ (fun _ => ?_))
   | exact ih0 _ _ _ _ _ _
   | exact bits_Valid.mono _ _
   | exact LeO.none _
   | refine LeO.ite ?_ ?_
   | refine LeO.bind ?_ (fun _ => ?_)
set_option maxHeartbeats 8000000 in
set_option maxRecDepth 100000 in
theorem stuff_check.calls (k : Nat) (a0_0 : Int) (a0_1 : Int) (a0_2 : Int) (a0_3 : ByteArray) (a0_4 : Int) (r : Int) (w : World) (h : stuff_check.f k a0_0 a0_1 a0_2 a0_3 a0_4 = some r) :
  Calls Try.prog 29 #[.agg #[.int .i64 a0_0, .int .i64 a0_1, .int .i64 a0_2, .string a0_3, .int .i64 a0_4]] w fun e w' => e = .returned (.int .i64 r) ∧ Below w.heap.size w w' := by
 have hu45 := Try.underlying45; have HB := Aside0.mk (Below.refl w.heap.size w); have H : (if a0_0 < 0 then (stuff_check.j0 k true a0_0 a0_1 a0_2 a0_3 a0_4) else (stuff_check.j0 k (decide (a0_0 > 1048576)) a0_0 a0_1 a0_2 a0_3 a0_4)) = some r := h; clear h; have HC2 := Aside0.mk H; clear H
 go_enter Try.func29, Try.ntmps29
 go_upto_region 1 with (first | ((with_reducible refine gate_dst (N := 1) rfl ?_); refine box_event ?hg (N := 1) ?hd (cs := #[.int .i64 a0_0, .int .i64 a0_1, .int .i64 a0_2, .string a0_3, .int .i64 a0_4]) (t := 45) ?hr ?_; (case hd => rfl); (case hg => rfl); (case hr => first | (go_simp; done) | (go_simp; rfl)); intro gb165 hg w3 hbox hb; have n0_ := Aside0.mk (below_step (hbw HB.out) hb); have n1_ := Aside0.mk (hbox); have n2_ := bsz HB hg; have n3_ := bsz HB hg; clear HB; have HB := n0_; have BK165 := n1_; have GW165 := n2_; have GE165 := n3_; clear n0_ n1_ n2_ n3_; clear hb hbox hg))
 (try simp only [Act.put, List.setIfInBounds_toArray, List.set_cons_zero, List.set_cons_succ])
 go_cut [3] (fun v3 wc => ∃ (kq : Nat) (x3_1 : Bool), v3 = .bool x3_1 ∧ Aside0 (stuff_check.j0 kq x3_1 a0_0 a0_1 a0_2 a0_3 a0_4 = some r) ∧ Aside0 (kq ≤ k) ∧ Aside0 (wc.heap[gb165]? = some (.cells #[.int .i64 a0_0, .int .i64 a0_1, .int .i64 a0_2, .string a0_3, .int .i64 a0_4] 45 (0, 0))) ∧ Aside0 (Below w.heap.size w wc))
 case first =>
  have H := HC2.out; clear HC2
  by_cases c4 : a0_0 < 0
  ·rw [if_pos c4] at H
   have c4b0 : decide (a0_0 < 0) = true := decide_eq_true c4; clear c4
   (first | rw [c4b0] | (simp only [i64_w, i32_w]; rw [c4b0]) | skip)
   have H' := Aside0.mk H; clear H; have hcz5_0 : w3.cell? ⟨gb165, 0, none⟩ = some (.int .i64 a0_0) := ck BK165 0; have hcz5_1 : w3.cell? ⟨gb165, 1, none⟩ = some (.int .i64 a0_1) := ck BK165 1; have hcz5_2 : w3.cell? ⟨gb165, 2, none⟩ = some (.int .i64 a0_2) := ck BK165 2; have hcz5_3 : w3.cell? ⟨gb165, 3, none⟩ = some (.string a0_3) := ck BK165 3; have hcz5_4 : w3.cell? ⟨gb165, 4, none⟩ = some (.int .i64 a0_4) := ck BK165 4; have hfz5_0 := blk_frozen BK165.out 0; have hfz5_1 := blk_frozen BK165.out 1; have hfz5_2 := blk_frozen BK165.out 2; have hfz5_3 := blk_frozen BK165.out 3; have hfz5_4 := blk_frozen BK165.out 4
   go_wp2
   go_meet
   case rel => exact ⟨_, (true), (by first | rfl | (simp; done) | (simp [*]; done)), H', ⟨by first | omega | exact Nat.le_refl _⟩, ⟨by (with_reducible repeat (first | refine blk_drewN ?_ _ | refine blk_drew ?_ | refine blk_alloc ?_ _)); exact BK165.out⟩, ⟨by repeat (first | (with_reducible first | exact HB.out | apply below_alloc | apply pw_below_drewN | apply below_drew1 | refine below_set ?_ GE165.out) | exact HB.out)⟩⟩
  ·rw [if_neg c4] at H
   have c4b0 : decide (a0_0 < 0) = false := decide_eq_false c4; clear c4
   (first | rw [c4b0] | (simp only [i64_w, i32_w]; rw [c4b0]) | skip)
   have H' := Aside0.mk H; clear H; have hcz6_0 : w3.cell? ⟨gb165, 0, none⟩ = some (.int .i64 a0_0) := ck BK165 0; have hcz6_1 : w3.cell? ⟨gb165, 1, none⟩ = some (.int .i64 a0_1) := ck BK165 1; have hcz6_2 : w3.cell? ⟨gb165, 2, none⟩ = some (.int .i64 a0_2) := ck BK165 2; have hcz6_3 : w3.cell? ⟨gb165, 3, none⟩ = some (.string a0_3) := ck BK165 3; have hcz6_4 : w3.cell? ⟨gb165, 4, none⟩ = some (.int .i64 a0_4) := ck BK165 4; have hfz6_0 := blk_frozen BK165.out 0; have hfz6_1 := blk_frozen BK165.out 1; have hfz6_2 := blk_frozen BK165.out 2; have hfz6_3 := blk_frozen BK165.out 3; have hfz6_4 := blk_frozen BK165.out 4
   go_wp2
   go_meet
   case rel => exact ⟨_, (decide (a0_0 > 1048576)), (by first | rfl | (simp; done) | (simp [*]; done)), H', ⟨by first | omega | exact Nat.le_refl _⟩, ⟨by (with_reducible repeat (first | refine blk_drewN ?_ _ | refine blk_drew ?_ | refine blk_alloc ?_ _)); exact BK165.out⟩, ⟨by repeat (first | (with_reducible first | exact HB.out | apply below_alloc | apply pw_below_drewN | apply below_drew1 | refine below_set ?_ GE165.out) | exact HB.out)⟩⟩
 case rest =>
  clear HC2
  try clear c2
  try clear p2
  try clear c4
  try clear c4b0
  try clear hcz5_0
  try clear hcz5_1
  try clear hcz5_2
  try clear hcz5_3
  try clear hcz5_4
  try clear hcz6_0
  try clear hcz6_1
  try clear hcz6_2
  try clear hcz6_3
  try clear hcz6_4
  try clear hfz5_0
  try clear hfz5_1
  try clear hfz5_2
  try clear hfz5_3
  try clear hfz5_4
  try clear hfz6_0
  try clear hfz6_1
  try clear hfz6_2
  try clear hfz6_3
  try clear hfz6_4
  obtain ⟨kq, x3_1, rfl, HA, HJ1, BK165, HB⟩ := hcut
  cases kq with
  | zero => exact absurd HA.out (by simp [stuff_check.j0])
  | succ kj1 =>
   have H := HA.out; clear HA
   simp only [stuff_check.j0] at H
   by_cases c7 : x3_1 = true
   ·subst c7
    have H1 : (some 1) = some r := by rw [if_pos rfl] at H; exact H
    clear H; have H := H1; clear H1; obtain rfl := Option.some.inj H
    go_wp2
    go_ret
    exact ⟨by first | rfl | (simp [errW_none, errW_some] <;> rfl) | (simp [*, errW_none, errW_some] <;> rfl), by repeat (first | (with_reducible first | exact HB.out | apply below_alloc | apply pw_below_drewN | apply below_drew1 | refine below_set ?_ GE165.out) | exact HB.out)⟩
   ·replace c7 := Bool.eq_false_iff.mpr c7
    subst c7
    have H1 : (if (a0_3.size : Int) > 4096 then (some 6) else ((bits_Valid.f kj1 a0_3).bind fun t166 => (if t166 = true then (if a0_4 = 0 then (some 0) else (if a0_4 = 4 then (some 0) else (some 1))) else (some 4)))) = some r := by rw [if_neg (show ¬ (false = true) by decide)] at H; exact H
    clear H; have H := H1; clear H1
    by_cases c8 : (a0_3.size : Int) > 4096
    ·rw [if_pos c8] at H
     have c8b0 : decide (4096 < (a0_3.size : Int)) = true := decide_eq_true c8; have c8b1 : decide (4096 < a0_3.size) = true := decide_eq_true (by omega); clear c8; obtain rfl := Option.some.inj H; have hcz9_0 : wc.cell? ⟨gb165, 0, none⟩ = some (.int .i64 a0_0) := ck BK165 0; have hcz9_1 : wc.cell? ⟨gb165, 1, none⟩ = some (.int .i64 a0_1) := ck BK165 1; have hcz9_2 : wc.cell? ⟨gb165, 2, none⟩ = some (.int .i64 a0_2) := ck BK165 2; have hcz9_3 : wc.cell? ⟨gb165, 3, none⟩ = some (.string a0_3) := ck BK165 3; have hcz9_4 : wc.cell? ⟨gb165, 4, none⟩ = some (.int .i64 a0_4) := ck BK165 4; have hfz9_0 := blk_frozen BK165.out 0; have hfz9_1 := blk_frozen BK165.out 1; have hfz9_2 := blk_frozen BK165.out 2; have hfz9_3 := blk_frozen BK165.out 3; have hfz9_4 := blk_frozen BK165.out 4
     go_wp2
     go_ret
     exact ⟨by first | rfl | (simp [errW_none, errW_some] <;> rfl) | (simp [*, errW_none, errW_some] <;> rfl), by repeat (first | (with_reducible first | exact HB.out | apply below_alloc | apply pw_below_drewN | apply below_drew1 | refine below_set ?_ GE165.out) | exact HB.out)⟩
    ·rw [if_neg c8] at H
     have c8b0 : decide (4096 < (a0_3.size : Int)) = false := decide_eq_false c8; have c8b1 : decide (4096 < a0_3.size) = false := decide_eq_false (by omega); clear c8; replace H := Option.bind_eq_some_iff.mp H; obtain ⟨t166, A100, H⟩ := H; replace H : (if t166 = true then (if a0_4 = 0 then (some 0) else (if a0_4 = 4 then (some 0) else (some 1))) else (some 4)) = some r := H; have A10 := Aside0.mk A100; clear A100
     by_cases c11 : t166 = true
     ·subst c11
      have H1 : (if a0_4 = 0 then (some 0) else (if a0_4 = 4 then (some 0) else (some 1))) = some r := by rw [if_pos rfl] at H; exact H
      clear H; have H := H1; clear H1
      by_cases c12 : a0_4 = 0
      ·rw [if_pos c12] at H
       have c12b0 : (a0_4 == 0) = true := beq_iff_eq.mpr c12; have c12b1 : (a0_4 != 0) = false := bne_eq_false_iff_eq.mpr c12; clear c12; obtain rfl := Option.some.inj H; have hcz13_0 : wc.cell? ⟨gb165, 0, none⟩ = some (.int .i64 a0_0) := ck BK165 0; have hcz13_1 : wc.cell? ⟨gb165, 1, none⟩ = some (.int .i64 a0_1) := ck BK165 1; have hcz13_2 : wc.cell? ⟨gb165, 2, none⟩ = some (.int .i64 a0_2) := ck BK165 2; have hcz13_3 : wc.cell? ⟨gb165, 3, none⟩ = some (.string a0_3) := ck BK165 3; have hcz13_4 : wc.cell? ⟨gb165, 4, none⟩ = some (.int .i64 a0_4) := ck BK165 4; have hfz13_0 := blk_frozen BK165.out 0; have hfz13_1 := blk_frozen BK165.out 1; have hfz13_2 := blk_frozen BK165.out 2; have hfz13_3 := blk_frozen BK165.out 3; have hfz13_4 := blk_frozen BK165.out 4
       go_wp2_with (first | ((with_reducible refine gate_callee (f := 35) rfl ?_); refine goesL_ (some 20) rfl rfl Try.func35 (by kernel_rfl) rfl #[.string a0_3] rfl (by (try simp only [List.map_toArray, List.map_cons, List.map_nil]); first | done | rfl | (simp only [List.length_drop, List.length_take]; rfl)) ?_; (with_reducible refine (bits_Valid.calls kj1 a0_3 true _ A10.out).mono ?_); rintro e w' ⟨rfl, ⟨nd, rfl⟩⟩; refine ⟨_, rfl, ?_⟩))
       go_ret
       exact ⟨by first | rfl | (simp [errW_none, errW_some] <;> rfl) | (simp [*, errW_none, errW_some] <;> rfl), by repeat (first | (with_reducible first | exact HB.out | apply below_alloc | apply pw_below_drewN | apply below_drew1 | refine below_set ?_ GE165.out) | exact HB.out)⟩
      ·rw [if_neg c12] at H
       have c12b0 : (a0_4 == 0) = false := beq_eq_false_iff_ne.mpr c12; have c12b1 : (a0_4 != 0) = true := bne_iff_ne.mpr c12
       by_cases c14 : a0_4 = 4
       ·rw [if_pos c14] at H
        have c14b0 : (a0_4 == 4) = true := beq_iff_eq.mpr c14; have c14b1 : (a0_4 != 4) = false := bne_eq_false_iff_eq.mpr c14; clear c14; obtain rfl := Option.some.inj H; have hcz15_0 : wc.cell? ⟨gb165, 0, none⟩ = some (.int .i64 a0_0) := ck BK165 0; have hcz15_1 : wc.cell? ⟨gb165, 1, none⟩ = some (.int .i64 a0_1) := ck BK165 1; have hcz15_2 : wc.cell? ⟨gb165, 2, none⟩ = some (.int .i64 a0_2) := ck BK165 2; have hcz15_3 : wc.cell? ⟨gb165, 3, none⟩ = some (.string a0_3) := ck BK165 3; have hcz15_4 : wc.cell? ⟨gb165, 4, none⟩ = some (.int .i64 a0_4) := ck BK165 4; have hfz15_0 := blk_frozen BK165.out 0; have hfz15_1 := blk_frozen BK165.out 1; have hfz15_2 := blk_frozen BK165.out 2; have hfz15_3 := blk_frozen BK165.out 3; have hfz15_4 := blk_frozen BK165.out 4
        go_wp2_with (first | ((with_reducible refine gate_callee (f := 35) rfl ?_); refine goesL_ (some 20) rfl rfl Try.func35 (by kernel_rfl) rfl #[.string a0_3] rfl (by (try simp only [List.map_toArray, List.map_cons, List.map_nil]); first | done | rfl | (simp only [List.length_drop, List.length_take]; rfl)) ?_; (with_reducible refine (bits_Valid.calls kj1 a0_3 true _ A10.out).mono ?_); rintro e w' ⟨rfl, ⟨nd, rfl⟩⟩; refine ⟨_, rfl, ?_⟩))
        go_ret
        exact ⟨by first | rfl | (simp [errW_none, errW_some] <;> rfl) | (simp [*, errW_none, errW_some] <;> rfl), by repeat (first | (with_reducible first | exact HB.out | apply below_alloc | apply pw_below_drewN | apply below_drew1 | refine below_set ?_ GE165.out) | exact HB.out)⟩
       ·rw [if_neg c14] at H
        have c14b0 : (a0_4 == 4) = false := beq_eq_false_iff_ne.mpr c14; have c14b1 : (a0_4 != 4) = true := bne_iff_ne.mpr c14; obtain rfl := Option.some.inj H; have hcz16_0 : wc.cell? ⟨gb165, 0, none⟩ = some (.int .i64 a0_0) := ck BK165 0; have hcz16_1 : wc.cell? ⟨gb165, 1, none⟩ = some (.int .i64 a0_1) := ck BK165 1; have hcz16_2 : wc.cell? ⟨gb165, 2, none⟩ = some (.int .i64 a0_2) := ck BK165 2; have hcz16_3 : wc.cell? ⟨gb165, 3, none⟩ = some (.string a0_3) := ck BK165 3; have hcz16_4 : wc.cell? ⟨gb165, 4, none⟩ = some (.int .i64 a0_4) := ck BK165 4; have hfz16_0 := blk_frozen BK165.out 0; have hfz16_1 := blk_frozen BK165.out 1; have hfz16_2 := blk_frozen BK165.out 2; have hfz16_3 := blk_frozen BK165.out 3; have hfz16_4 := blk_frozen BK165.out 4
        go_wp2_with (first | ((with_reducible refine gate_callee (f := 35) rfl ?_); refine goesL_ (some 20) rfl rfl Try.func35 (by kernel_rfl) rfl #[.string a0_3] rfl (by (try simp only [List.map_toArray, List.map_cons, List.map_nil]); first | done | rfl | (simp only [List.length_drop, List.length_take]; rfl)) ?_; (with_reducible refine (bits_Valid.calls kj1 a0_3 true _ A10.out).mono ?_); rintro e w' ⟨rfl, ⟨nd, rfl⟩⟩; refine ⟨_, rfl, ?_⟩))
        go_ret
        exact ⟨by first | rfl | (simp [errW_none, errW_some] <;> rfl) | (simp [*, errW_none, errW_some] <;> rfl), by repeat (first | (with_reducible first | exact HB.out | apply below_alloc | apply pw_below_drewN | apply below_drew1 | refine below_set ?_ GE165.out) | exact HB.out)⟩
     ·replace c11 := Bool.eq_false_iff.mpr c11
      subst c11
      have H1 : (some 4) = some r := by rw [if_neg (show ¬ (false = true) by decide)] at H; exact H
      clear H; have H := H1; clear H1; obtain rfl := Option.some.inj H; have hcz17_0 : wc.cell? ⟨gb165, 0, none⟩ = some (.int .i64 a0_0) := ck BK165 0; have hcz17_1 : wc.cell? ⟨gb165, 1, none⟩ = some (.int .i64 a0_1) := ck BK165 1; have hcz17_2 : wc.cell? ⟨gb165, 2, none⟩ = some (.int .i64 a0_2) := ck BK165 2; have hcz17_3 : wc.cell? ⟨gb165, 3, none⟩ = some (.string a0_3) := ck BK165 3; have hcz17_4 : wc.cell? ⟨gb165, 4, none⟩ = some (.int .i64 a0_4) := ck BK165 4; have hfz17_0 := blk_frozen BK165.out 0; have hfz17_1 := blk_frozen BK165.out 1; have hfz17_2 := blk_frozen BK165.out 2; have hfz17_3 := blk_frozen BK165.out 3; have hfz17_4 := blk_frozen BK165.out 4
      go_wp2_with (first | ((with_reducible refine gate_callee (f := 35) rfl ?_); refine goesL_ (some 20) rfl rfl Try.func35 (by kernel_rfl) rfl #[.string a0_3] rfl (by (try simp only [List.map_toArray, List.map_cons, List.map_nil]); first | done | rfl | (simp only [List.length_drop, List.length_take]; rfl)) ?_; (with_reducible refine (bits_Valid.calls kj1 a0_3 false _ A10.out).mono ?_); rintro e w' ⟨rfl, ⟨nd, rfl⟩⟩; refine ⟨_, rfl, ?_⟩))
      go_ret
      exact ⟨by first | rfl | (simp [errW_none, errW_some] <;> rfl) | (simp [*, errW_none, errW_some] <;> rfl), by repeat (first | (with_reducible first | exact HB.out | apply below_alloc | apply pw_below_drewN | apply below_drew1 | refine below_set ?_ GE165.out) | exact HB.out)⟩

end Go.Proofs.Ytpgeomgaphodkaa.PStuffDecodes
