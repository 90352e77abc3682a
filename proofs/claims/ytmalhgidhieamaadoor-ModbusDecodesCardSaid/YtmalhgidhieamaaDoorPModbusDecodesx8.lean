-- Written by a program of this session (wip/tools/pr.py), which calls the kit's print with changes of its own.
import Derived.Test.YtmalhgidhieamaaDoorPModbusDecodesx0
import Derived.Test.YtmalhgidhieamaaDoorPModbusDecodesx3
import Derived.Test.YtmalhgidhieamaaDoorPModbusDecodesx6
import Derived.Test.YtmalhgidhieamaaDoorPModbusDecodesx7
namespace Go.Proofs.YtmalhgidhieamaaDoor.PModbusDecodes
open Go.RowKit Go.Proofs.YtmalhgidhieamaaDoorW.PrintWords Go.Proofs.YtmalhgidhieamaaDoorW.PrintLast Go.Proofs.YtmalhgidhieamaaDoorW.PrintMore
attribute [local go_sem] max2_int min2_int max_two min_two max_three min_three max_four min_four   -- for this text's walks alone
set_option linter.unusedVariables false
set_option linter.unusedSimpArgs false

/-! ### modbus_End: function 16 -/
def modbus_End.f (k : Nat) (a0_0 : Int) (a1_0 : Int) (a1_1 : Int) (a1_2 : Int) (a1_3 : Int) (a1_4 : Int) (a1_5 : Int) (a1_6 : Int) (a1_7 : ByteArray) : Option ((List (S32))) := (modbus_Check.f a0_0).bind fun t160 => (if t160 = 0 then ((modbus_finish.f k a1_0 a1_1 a1_2 a1_3 a1_4 a1_5 a1_6 a1_7).bind fun t161 => (some t161)) else (some ([] : List (S32))))
theorem modbus_End.mono : ∀ a0 a1 a2 a3 a4 a5 a6 a7 a8 k, LeO (modbus_End.f k a0 a1 a2 a3 a4 a5 a6 a7 a8) (modbus_End.f (k + 1) a0 a1 a2 a3 a4 a5 a6 a7 a8) := by
 intro a0 a1 a2 a3 a4 a5 a6 a7 a8 k
 unfold modbus_End.f
 repeat' first
   | (with_reducible exact modbus_finish.mono _ _ _ _ _ _ _ _ _)
   | (with_reducible exact LeO.refl _)
   | (with_reducible exact LeO.none _)
   | (with_reducible refine LeO.ite ?_ ?_)
   | (with_reducible refine LeO.bind ?_ (fun _ => ?_))
   | exact modbus_finish.mono _ _ _ _ _ _ _ _ _
   | exact LeO.none _
   | refine LeO.ite ?_ ?_
   | refine LeO.bind ?_ (fun _ => ?_)
set_option maxHeartbeats 8000000 in
set_option maxRecDepth 100000 in
theorem modbus_End.calls (k : Nat) (a0_0 : Int) (a1_0 : Int) (a1_1 : Int) (a1_2 : Int) (a1_3 : Int) (a1_4 : Int) (a1_5 : Int) (a1_6 : Int) (a1_7 : ByteArray) (r : List (S32)) (w : World) (hT_ : TabOk w) (h : modbus_End.f k a0_0 a1_0 a1_1 a1_2 a1_3 a1_4 a1_5 a1_6 a1_7 = some r) :
  Calls Tryd.prog 16 #[.agg #[.int .i64 a0_0], .agg #[.int .i64 a1_0, .int .i64 a1_1, .int .i64 a1_2, .int .i64 a1_3, .int .i64 a1_4, .int .i64 a1_5, .int .i64 a1_6, .string a1_7]] w fun e w' => ∃ v0_ : Value, e = .returned (v0_) ∧ Kd.R k32 32 w' w.heap.size (fun _ => True) v0_ r ∧ Below w.heap.size w w' := by
 have hu23 := Tryd.underlying23; have hu27 := Tryd.underlying27; have HB := sA (Below.refl w.heap.size w); have H : ((modbus_Check.f a0_0).bind fun t160 => (if t160 = 0 then ((modbus_finish.f k a1_0 a1_1 a1_2 a1_3 a1_4 a1_5 a1_6 a1_7).bind fun t161 => (some t161)) else (some ([] : List (S32))))) = some r := h; clear h; replace H := Option.bind_eq_some_iff.mp H; obtain ⟨t160, A30, H⟩ := H; replace H : (if t160 = 0 then ((modbus_finish.f k a1_0 a1_1 a1_2 a1_3 a1_4 a1_5 a1_6 a1_7).bind fun t161 => (some t161)) else (some ([] : List (S32)))) = some r := H; have A3 := sA A30; clear A30
 by_cases c4 : t160 = 0
 ·rw [if_pos c4] at H
  have c4b0 : (t160 == 0) = true := beq_iff_eq.mpr c4; have c4b1 : (t160 != 0) = false := bne_eq_false_iff_eq.mpr c4; clear c4; replace H := Option.bind_eq_some_iff.mp H; obtain ⟨t161, A50, H⟩ := H; replace H : (some t161) = some r := H; have A5 := sA A50; clear A50; obtain rfl := Option.some.inj H
  go_enter Tryd.func16, Tryd.ntmps16
  go_wp2_with (first | ((with_reducible refine gate_dst (N := 2) rfl ?_); refine boxK 2 #[.int .i64 a0_0] 23 ?_; intro gb158 hg w6 hbox hb; have BK158 := sA hbox; have GW158 := bsz HB hg; have GE158 := bsz HB hg; replace HB := bst HB hb; clear hb hbox hg) | ((with_reducible refine gate_dst (N := 3) rfl ?_); refine boxK 3 #[.int .i64 a1_0, .int .i64 a1_1, .int .i64 a1_2, .int .i64 a1_3, .int .i64 a1_4, .int .i64 a1_5, .int .i64 a1_6, .string a1_7] 27 ?_; intro gb159 hg w7 hbox hb; have BK159 := sA hbox; have GW159 := bsz HB hg; have GE159 := bsz HB hg; have NB158_159 := bnl BK158 hg; have NB159_158 := bng BK158 hg; replace BK158 := sA (blkb BK158.out hb); replace HB := bst HB hb; clear hb hbox hg; have hnb8 := NB158_159.out; have hnc8 := NB159_158.out; obtain ⟨hcz9_0,hfz9_0⟩ := cQ1 BK158) | ((with_reducible refine gate_callee (f := 14) rfl ?_); refine goesK (some 6) Tryd.func14 #[.agg #[.int .i64 a0_0]] ?_; (with_reducible refine (modbus_Check.calls a0_0 t160 _ A3.out).mono ?_); rintro e w10 ⟨rfl, hb⟩; refine ⟨_, rfl, ?_⟩; replace BK158 := sA (blkb BK158.out hb); replace BK159 := sA (blkb BK159.out hb); replace HB := bst HB hb; (try clear hb); obtain ⟨_,_,_,_,_,_,_,_,_,_,_,_,_,_,_,_⟩ := cQ8 BK159) | ((with_reducible refine gate_callee (f := 27) rfl ?_); refine goesK (some 9) Tryd.func27 #[.agg #[.int .i64 a1_0, .int .i64 a1_1, .int .i64 a1_2, .int .i64 a1_3, .int .i64 a1_4, .int .i64 a1_5, .int .i64 a1_6, .string a1_7]] ?_; (with_reducible refine (modbus_finish.calls k a1_0 a1_1 a1_2 a1_3 a1_4 a1_5 a1_6 a1_7 t161 _ ?side1 A5.out).mono ?_); (case side1 => refine TabOk.below hT_ ?_; repeat (first | (with_reducible first | exact HB.out | apply below_alloc | apply pw_below_drewN | apply below_drew1 | refine below_set ?_ GE158.out | refine below_set ?_ GE159.out) | exact HB.out)); rintro e w12 ⟨v162, rfl, ho0, hb⟩; refine ⟨_, rfl, ?_⟩; have HO163 := sA (Kd.R_lower ho0 (below_size (hbw HB.out))); replace BK158 := sA (blkb BK158.out hb); replace BK159 := sA (blkb BK159.out hb); replace HB := bst HB hb; (try clear hb); (try clear ho0)))
  go_ret
  exact ⟨_, eW_, by (with_reducible repeat (first | apply Kd.R_alloc | apply Kd.R_drewN | apply Kd.R_drew)); exact HO163.out, hbw HB.out⟩
 ·rw [if_neg c4] at H
  have c4b0 : (t160 == 0) = false := beq_eq_false_iff_ne.mpr c4; have c4b1 : (t160 != 0) = true := bne_iff_ne.mpr c4; obtain rfl := Option.some.inj H
  go_enter Tryd.func16, Tryd.ntmps16
  go_wp2_with (first | ((with_reducible refine gate_dst (N := 2) rfl ?_); refine boxK 2 #[.int .i64 a0_0] 23 ?_; intro gb158 hg w13 hbox hb; have BK158 := sA hbox; have GW158 := bsz HB hg; have GE158 := bsz HB hg; replace HB := bst HB hb; clear hb hbox hg) | ((with_reducible refine gate_dst (N := 3) rfl ?_); refine boxK 3 #[.int .i64 a1_0, .int .i64 a1_1, .int .i64 a1_2, .int .i64 a1_3, .int .i64 a1_4, .int .i64 a1_5, .int .i64 a1_6, .string a1_7] 27 ?_; intro gb159 hg w14 hbox hb; have BK159 := sA hbox; have GW159 := bsz HB hg; have GE159 := bsz HB hg; have NB158_159 := bnl BK158 hg; have NB159_158 := bng BK158 hg; replace BK158 := sA (blkb BK158.out hb); replace HB := bst HB hb; clear hb hbox hg; have hnb15 := NB158_159.out; have hnc15 := NB159_158.out; obtain ⟨_,_⟩ := cQ1 BK158) | ((with_reducible refine gate_callee (f := 14) rfl ?_); refine goesK (some 6) Tryd.func14 #[.agg #[.int .i64 a0_0]] ?_; (with_reducible refine (modbus_Check.calls a0_0 t160 _ A3.out).mono ?_); rintro e w17 ⟨rfl, hb⟩; refine ⟨_, rfl, ?_⟩; replace BK158 := sA (blkb BK158.out hb); replace BK159 := sA (blkb BK159.out hb); replace HB := bst HB hb; (try clear hb)))
  go_ret
  exact ⟨_, eW_, by first | exact Kd.R_nil _ _ _ _ _ | exact Kd.N_nil _ _ _ _ _ | exact Kd.V_nil _ _ _ _ _ | exact Kd.Q_nil _ _ _ _ _ | exact Kd.S_nil _ _ _ _ _, hbw HB.out⟩

/-! ### modbus_Decode: function 18 -/
def modbus_Decode.l0 : Nat → List (S32) → List (S32) → Int → Int → Int → Int → Int → Int → Int → Int → Int → Int → ByteArray → Option ((List (S32)))
 | 0, _, _, _, _, _, _, _, _, _, _, _, _, _ => none
 | k + 1, x6, x13, x14, x15, x165000, x174000, x174001, x174002, x174003, x174004, x174005, x174006, x174007 => if x15 < x14 then (if 0 ≤ x15 then (if x15 < (x13.length : Int) then ((modbus_Step.f k x165000 x174000 x174001 x174002 x174003 x174004 x174005 x174006 x174007 ((rd_T32 x13 x15).f0) ((rd_T32 x13 x15).f1) ((rd_T32 x13 x15).f2) ((rd_T32 x13 x15).f3) ((rd_T32 x13 x15).f4) ((rd_T32 x13 x15).f5) ((rd_T32 x13 x15).f6)).bind fun bt176 => (if x6.length + bt176.2.2.2.2.2.2.2.2.length < 2199023255552 then (modbus_Decode.l0 k (x6 ++ bt176.2.2.2.2.2.2.2.2) x13 x14 (wrap64 (x15 + 1)) x165000 bt176.1 bt176.2.1 bt176.2.2.1 bt176.2.2.2.1 bt176.2.2.2.2.1 bt176.2.2.2.2.2.1 bt176.2.2.2.2.2.2.1 bt176.2.2.2.2.2.2.2.1) else (none))) else (none)) else (none)) else ((modbus_End.f k x165000 x174000 x174001 x174002 x174003 x174004 x174005 x174006 x174007).bind fun t191 => (if x6.length + t191.length < 2199023255552 then (some (x6 ++ t191)) else (none)))
def modbus_Decode.f (k : Nat) (a0_0 : Int) (l1 : List (S32)) : Option ((List (S32))) := (modbus_Start.f a0_0).bind fun bt165 => (modbus_Decode.l0 k ([] : List (S32)) l1 (l1.length : Int) 0 a0_0 bt165.1 bt165.2.1 bt165.2.2.1 bt165.2.2.2.1 bt165.2.2.2.2.1 bt165.2.2.2.2.2.1 bt165.2.2.2.2.2.2.1 bt165.2.2.2.2.2.2.2)
theorem modbus_Decode.mono_l : ∀ k, (∀ y0 y1 y2 y3 y4 y5 y6 y7 y8 y9 y10 y11 y12, LeO (modbus_Decode.l0 k y0 y1 y2 y3 y4 y5 y6 y7 y8 y9 y10 y11 y12) (modbus_Decode.l0 (k + 1) y0 y1 y2 y3 y4 y5 y6 y7 y8 y9 y10 y11 y12))
 | 0 => fun _ _ _ _ _ _ _ _ _ _ _ _ _ r h => by simp [modbus_Decode.l0] at h
 | k + 1 => by
  have ih0 := modbus_Decode.mono_l k
  ·intro y0 y1 y2 y3 y4 y5 y6 y7 y8 y9 y10 y11 y12
   unfold modbus_Decode.l0
   repeat' first
   | (with_reducible exact ih0 _ _ _ _ _ _ _ _ _ _ _ _ _)
   | (with_reducible exact modbus_End.mono _ _ _ _ _ _ _ _ _ _)
   | (with_reducible exact modbus_Step.mono _ _ _ _ _ _ _ _ _ _ _ _ _ _ _ _ _)
   | (with_reducible exact LeO.refl _)
   | (with_reducible exact LeO.none _)
   | (with_reducible refine LeO.ite ?_ ?_)
   | (with_reducible refine LeO.bind ?_ (fun _ => ?_))
   | exact ih0 _ _ _ _ _ _ _ _ _ _ _ _ _
   | exact modbus_End.mono _ _ _ _ _ _ _ _ _ _
   | exact modbus_Step.mono _ _ _ _ _ _ _ _ _ _ _ _ _ _ _ _ _
   | exact LeO.none _
   | refine LeO.ite ?_ ?_
   | refine LeO.bind ?_ (fun _ => ?_)
theorem modbus_Decode.mono : ∀ a0 a1 k, LeO (modbus_Decode.f k a0 a1) (modbus_Decode.f (k + 1) a0 a1) := by
 intro a0 a1 k; have ih0 := modbus_Decode.mono_l k
 unfold modbus_Decode.f
 repeat' first
   | (with_reducible exact ih0 _ _ _ _ _ _ _ _ _ _ _ _ _)
   | (with_reducible exact modbus_End.mono _ _ _ _ _ _ _ _ _ _)
   | (with_reducible exact modbus_Step.mono _ _ _ _ _ _ _ _ _ _ _ _ _ _ _ _ _)
   | (with_reducible exact LeO.refl _)
   | (with_reducible exact LeO.none _)
   | (with_reducible refine LeO.ite ?_ ?_)
   | (with_reducible refine LeO.bind ?_ (fun _ => ?_))
   | exact ih0 _ _ _ _ _ _ _ _ _ _ _ _ _
   | exact modbus_End.mono _ _ _ _ _ _ _ _ _ _
   | exact modbus_Step.mono _ _ _ _ _ _ _ _ _ _ _ _ _ _ _ _ _
   | exact LeO.none _
   | refine LeO.ite ?_ ?_
   | refine LeO.bind ?_ (fun _ => ?_)
set_option maxHeartbeats 8000000 in
set_option maxRecDepth 100000 in
theorem modbus_Decode.calls (k : Nat) (a0_0 : Int) (A1 : Option Addr) (c1 : Nat) (l1 : List (S32)) (r : List (S32)) (w : World) (hT_ : TabOk w) (hr1 : Kd.C k32 w A1 l1.length l1) (hc1 : l1.length ≤ c1) (h : modbus_Decode.f k a0_0 l1 = some r) :
  Calls Tryd.prog 18 #[.agg #[.int .i64 a0_0], .slice A1 l1.length c1] w fun e w' => ∃ v0_ : Value, e = .returned (v0_) ∧ Kd.R k32 32 w' w.heap.size (fun _ => True) v0_ r ∧ Below w.heap.size w w' := by
 have hu23 := Tryd.underlying23; have hu27 := Tryd.underlying27; have hu32 := Tryd.underlying32; have HR1 := sA hr1; have HC1 := sA hc1; clear hr1 hc1; have HB := sA (Below.refl w.heap.size w); have H : ((modbus_Start.f a0_0).bind fun bt165 => (modbus_Decode.l0 k ([] : List (S32)) l1 (l1.length : Int) 0 a0_0 bt165.1 bt165.2.1 bt165.2.2.1 bt165.2.2.2.1 bt165.2.2.2.2.1 bt165.2.2.2.2.2.1 bt165.2.2.2.2.2.2.1 bt165.2.2.2.2.2.2.2)) = some r := h; clear h; replace H := Option.bind_eq_some_iff.mp H; obtain ⟨⟨t165, t166, t167, t168, t169, t170, t171, t172⟩, A30, H⟩ := H; replace H : (modbus_Decode.l0 k ([] : List (S32)) l1 (l1.length : Int) 0 a0_0 t165 t166 t167 t168 t169 t170 t171 t172) = some r := H; have A3 := sA A30; clear A30; have H' := sA H; clear H
 go_enter Tryd.func18, Tryd.ntmps18
 go_wp2_with (first | ((with_reducible refine gate_dst (N := 2) rfl ?_); refine boxK 2 #[.int .i64 a0_0] 23 ?_; intro gb164 hg w4 hbox hb; have BK164 := sA hbox; have GW164 := bsz HB hg; have GE164 := bsz HB hg; replace HB := bst HB hb; clear hb hbox hg; obtain ⟨hcz5_0,hfz5_0⟩ := cQ1 BK164) | ((with_reducible refine gate_callee (f := 9) rfl ?_); refine goesK (some 12) Tryd.func9 #[.agg #[.int .i64 a0_0]] ?_; (with_reducible refine (modbus_Start.calls a0_0 t165 t166 t167 t168 t169 t170 t171 t172 _ A3.out).mono ?_); rintro e w6 ⟨rfl, hb⟩; refine ⟨_, rfl, ?_⟩; replace BK164 := sA (blkb BK164.out hb); replace HB := bst HB hb; (try clear hb)) | ((with_reducible refine gate_dst (N := 5) rfl ?_); refine boxK 5 #[.int .i64 0, .int .i64 0, .int .i64 0, .int .i64 0, .int .i64 0, .int .i64 0, .int .i64 0, .string (⟨#[]⟩ : ByteArray)] 27 ?_; intro gb173 hg w7 hbox hb; have BK173 := sA hbox; have GW173 := bsz HB hg; have GE173 := bsz HB hg; have NB164_173 := bnl BK164 hg; have NB173_164 := bng BK164 hg; replace BK164 := sA (blkb BK164.out hb); replace HB := bst HB hb; clear hb hbox hg; have hnb8 := NB173_164.out; have hnc8 := NB164_173.out; obtain ⟨hcz9_0,hcz9_1,hcz9_2,hcz9_3,hcz9_4,hcz9_5,hcz9_6,hcz9_7,hfz9_0,hfz9_1,hfz9_2,hfz9_3,hfz9_4,hfz9_5,hfz9_6,hfz9_7⟩ := cQ8 BK173))
 go_loopg [6, 15] k (fun kq v6 v15 w' => ∃ (x6_1 : List (S32)) (x15_1 : Int) (x174000_1 : Int) (x174001_1 : Int) (x174002_1 : Int) (x174003_1 : Int) (x174004_1 : Int) (x174005_1 : Int) (x174006_1 : Int) (x174007_1 : ByteArray), v15 = .int .i64 x15_1 ∧ Aside0 (modbus_Decode.l0 kq x6_1 l1 (l1.length : Int) x15_1 a0_0 x174000_1 x174001_1 x174002_1 x174003_1 x174004_1 x174005_1 x174006_1 x174007_1 = some r) ∧ Aside0 (kq ≤ k) ∧ Aside0 (Kd.R k32 32 w' w.heap.size (fun _ => True) v6 x6_1) ∧ Aside0 (w'.heap[gb164]? = some (.cells #[.int .i64 a0_0] 23 (0, 0))) ∧ Aside0 (w'.heap[gb173]? = some (.cells #[.int .i64 x174000_1, .int .i64 x174001_1, .int .i64 x174002_1, .int .i64 x174003_1, .int .i64 x174004_1, .int .i64 x174005_1, .int .i64 x174006_1, .string x174007_1] 27 (0, 0))) ∧ Aside0 (Below w.heap.size w w'))
 case atStart => exact ⟨(([] : List (S32))), (0), (t165), (t166), (t167), (t168), (t169), (t170), (t171), (t172), (by first | rfl | (simp; done) | (simp [*]; done)), H', ⟨Nat.le_refl _⟩, ⟨by first | exact Kd.R_nil _ _ _ _ _ | exact Kd.N_nil _ _ _ _ _ | exact Kd.V_nil _ _ _ _ _ | exact Kd.Q_nil _ _ _ _ _ | exact Kd.S_nil _ _ _ _ _⟩, ⟨by (repeat (with_reducible first | refine blk_far ?_ NB164_173.out _ | refine blk_drewN ?_ _ | refine blk_drew ?_ | refine blk_alloc ?_ _)); exact BK164.out⟩, ⟨by (with_reducible repeat (first | refine blk_drewN ?_ _ | refine blk_drew ?_ | refine blk_alloc ?_ _)); refine blk_put8 (.int .i64 0) (.int .i64 0) (.int .i64 0) (.int .i64 0) (.int .i64 0) (.int .i64 0) (.int .i64 0) (.string (⟨#[]⟩ : ByteArray)) ?_; (with_reducible repeat (first | refine blk_drewN ?_ _ | refine blk_drew ?_ | refine blk_alloc ?_ _)); exact BK173.out⟩, ⟨hbw HB.out⟩⟩
 case round =>
  clear H'
  try clear c1
  try clear hcz5_0
  try clear hcz9_0
  try clear hcz9_1
  try clear hcz9_2
  try clear hcz9_3
  try clear hcz9_4
  try clear hcz9_5
  try clear hcz9_6
  try clear hcz9_7
  try clear hfz5_0
  try clear hfz9_0
  try clear hfz9_1
  try clear hfz9_2
  try clear hfz9_3
  try clear hfz9_4
  try clear hfz9_5
  try clear hfz9_6
  try clear hfz9_7
  obtain ⟨x6_1, x15_1, x174000_1, x174001_1, x174002_1, x174003_1, x174004_1, x174005_1, x174006_1, x174007_1, rfl, HA, HK1, HO_6, BK164, BK173, HB⟩ := hrel
  cases gk with
  | zero => exact absurd HA.out (by simp [modbus_Decode.l0])
  | succ k1 =>
   have H := HA.out; clear HA
   simp only [modbus_Decode.l0] at H
   by_cases c10 : x15_1 < (l1.length : Int)
   ·rw [if_pos c10] at H
    have c10b0 : decide (x15_1 < (l1.length : Int)) = true := decide_eq_true c10; clear c10
    by_cases c11 : 0 ≤ x15_1
    ·rw [if_pos c11] at H
     have c11b0 : decide (0 ≤ x15_1) = true := decide_eq_true c11; clear c11
     by_cases c12 : x15_1 < (l1.length : Int)
     ·rw [if_pos c12] at H
      have c12b0 : decide (x15_1 < (l1.length : Int)) = true := decide_eq_true c12; clear c12; replace H := Option.bind_eq_some_iff.mp H; obtain ⟨⟨t176, t177, t178, t179, t180, t181, t182, t183, t184⟩, A130, H⟩ := H; replace H : (if x6_1.length + t184.length < 2199023255552 then (modbus_Decode.l0 k1 (x6_1 ++ t184) l1 (l1.length : Int) (wrap64 (x15_1 + 1)) a0_0 t176 t177 t178 t179 t180 t181 t182 t183) else (none)) = some r := H; have A13 := sA A130; clear A130
      by_cases c14 : x6_1.length + t184.length < 2199023255552
      ·rw [if_pos c14] at H
       have LMc14 := sA c14; clear c14; obtain ⟨y188, hy188⟩ : ∃ y_ : List (S32), y_ = (x6_1 ++ t184) := ⟨_, rfl⟩
       replace H : (modbus_Decode.l0 k1 y188 l1 (l1.length : Int) (wrap64 (x15_1 + 1)) a0_0 t176 t177 t178 t179 t180 t181 t182 t183) = some r := by first | (rw [hy188]; with_reducible exact H) | (have H2_ := (Option.bind_some _ _).symm.trans H; rw [hy188]; with_reducible exact H2_) | (have H2_ := (Option.bind_some _ _).symm.trans H; with_reducible exact H2_) | with_reducible exact H | (rw [hy188]; exact H) | exact H
       have Ny188 := sA hy188; clear hy188; have H' := sA H; clear H; have p174 : 0 ≤ (x15_1 : Int) := of_decide_eq_true (by first | (with_reducible assumption) | assumption); have q174 : x15_1 < (l1.length : Int) := of_decide_eq_true (by first | (with_reducible assumption) | assumption); obtain ⟨ad174, e174, hx174_0, hx174_1, hx174_2, hx174_3, hx174_4, hx174_5, hx174_6⟩ := at_T32 HR1.out x15_1 p174 q174
       cases e174
       replace hx174_0 := hbc HB hx174_0; replace hx174_1 := hbc HB hx174_1; replace hx174_2 := hbc HB hx174_2; replace hx174_3 := hbc HB hx174_3; replace hx174_4 := hbc HB hx174_4; replace hx174_5 := hbc HB hx174_5; replace hx174_6 := hbc HB hx174_6; replace p174 := eq_true p174; replace q174 := eq_true q174
       go_wp2_with (first | ((with_reducible refine gate_dst (N := 8) rfl ?_); refine boxK 8 #[.int .i64 0, .int .i64 0, .int .i64 0, .int .i64 0, .int .i64 0, .string (⟨#[]⟩ : ByteArray), .int .i64 0] 32 ?_; intro gb175 hg w15 hbox hb; have BK175 := sA hbox; have GW175 := bsz HB hg; have GE175 := bsz HB hg; have NB164_175 := bnl BK164 hg; have NB175_164 := bng BK164 hg; have NB173_175 := bnl BK173 hg; have NB175_173 := bng BK173 hg; replace HO_6 := sA (Kd.R_below (Kd.R_elderB (rkw HO_6.out) gb175 (Nat.le_of_eq hg.symm)) hb); replace BK164 := sA (blkb BK164.out hb); replace BK173 := sA (blkb BK173.out hb); replace HB := bst HB hb; clear hb hbox hg; have hnb16 := NB175_164.out; have hnc16 := NB164_175.out; have hnb17 := NB175_173.out; have hnc17 := NB173_175.out; obtain ⟨_,_,_,_,_,_,_,_,_,_,_,_,_,_⟩ := cQ7 BK175; have hnb19 := NB164_173.out; have hnc19 := NB173_164.out; obtain ⟨_,_⟩ := cQ1 BK164; obtain ⟨_,_,_,_,_,_,_,_,_,_,_,_,_,_,_,_⟩ := cQ8 BK173) | ((with_reducible refine gate_callee (f := 11) rfl ?_); refine goesK (some 23) Tryd.func11 #[.agg #[.int .i64 a0_0], .agg #[.int .i64 x174000_1, .int .i64 x174001_1, .int .i64 x174002_1, .int .i64 x174003_1, .int .i64 x174004_1, .int .i64 x174005_1, .int .i64 x174006_1, .string x174007_1], .agg #[.int .i64 ((rd_T32 l1 x15_1).f0), .int .i64 ((rd_T32 l1 x15_1).f1), .int .i64 ((rd_T32 l1 x15_1).f2), .int .i64 ((rd_T32 l1 x15_1).f3), .int .i64 ((rd_T32 l1 x15_1).f4), .string ((rd_T32 l1 x15_1).f5), .int .i64 ((rd_T32 l1 x15_1).f6)]] ?_; (with_reducible refine (modbus_Step.calls k1 a0_0 x174000_1 x174001_1 x174002_1 x174003_1 x174004_1 x174005_1 x174006_1 x174007_1 ((rd_T32 l1 x15_1).f0) ((rd_T32 l1 x15_1).f1) ((rd_T32 l1 x15_1).f2) ((rd_T32 l1 x15_1).f3) ((rd_T32 l1 x15_1).f4) ((rd_T32 l1 x15_1).f5) ((rd_T32 l1 x15_1).f6) t176 t177 t178 t179 t180 t181 t182 t183 t184 _ ?side1 A13.out).mono ?_); (case side1 => refine TabOk.below hT_ ?_; repeat (first | (with_reducible first | exact HB.out | apply below_alloc | apply pw_below_drewN | apply below_drew1 | refine below_set ?_ GE164.out | refine below_set ?_ GE173.out | refine below_set ?_ GE175.out) | exact HB.out)); rintro e w22 ⟨v185, rfl, ho0, hb⟩; refine ⟨_, rfl, ?_⟩; have HO186 := sA (Kd.R_lower (Kd.R_newB (Kd.R_new' ho0 (Kd.R_lt (by (with_reducible repeat (first | apply Kd.R_alloc | apply Kd.R_drewN | apply Kd.R_drew)); exact (Kd.R_mono (Kd.R_far (p := ⟨gb175, 6, none⟩) (Kd.R_far (p := ⟨gb175, 5, none⟩) (Kd.R_far (p := ⟨gb175, 4, none⟩) (Kd.R_far (p := ⟨gb175, 3, none⟩) (Kd.R_far (p := ⟨gb175, 2, none⟩) (Kd.R_far (p := ⟨gb175, 1, none⟩) (Kd.R_far (p := ⟨gb175, 0, none⟩) (Kd.R_mono HO_6.out (fun k_ hk => (⟨hk, hk.2⟩ : _ ∧ k_ ≠ gb175))) (fun _ hk => hk.2) (.int .i64 ((rd_T32 l1 x15_1).f0))) (fun _ hk => hk.2) (.int .i64 ((rd_T32 l1 x15_1).f1))) (fun _ hk => hk.2) (.int .i64 ((rd_T32 l1 x15_1).f2))) (fun _ hk => hk.2) (.int .i64 ((rd_T32 l1 x15_1).f3))) (fun _ hk => hk.2) (.int .i64 ((rd_T32 l1 x15_1).f4))) (fun _ hk => hk.2) (.string ((rd_T32 l1 x15_1).f5))) (fun _ hk => hk.2) (.int .i64 ((rd_T32 l1 x15_1).f6))) (fun _ h_ => h_.1))))) (g := gb175) (o := .cells #[.int .i64 ((rd_T32 l1 x15_1).f0), .int .i64 ((rd_T32 l1 x15_1).f1), .int .i64 ((rd_T32 l1 x15_1).f2), .int .i64 ((rd_T32 l1 x15_1).f3), .int .i64 ((rd_T32 l1 x15_1).f4), .string ((rd_T32 l1 x15_1).f5), .int .i64 ((rd_T32 l1 x15_1).f6)] 32 (0, 0)) (by (with_reducible repeat (first | refine blk_drewN ?_ _ | refine blk_drew ?_ | refine blk_alloc ?_ _)); refine blk_put7 (.int .i64 0) (.int .i64 0) (.int .i64 0) (.int .i64 0) (.int .i64 0) (.string (⟨#[]⟩ : ByteArray)) (.int .i64 0) ?_; (with_reducible repeat (first | refine blk_drewN ?_ _ | refine blk_drew ?_ | refine blk_alloc ?_ _)); exact BK175.out)) (below_size (hbw HB.out))); replace HO_6 := sA (Kd.R_elder' (by (with_reducible repeat (first | apply Kd.R_alloc | apply Kd.R_drewN | apply Kd.R_drew)); exact (Kd.R_mono (Kd.R_far (p := ⟨gb175, 6, none⟩) (Kd.R_far (p := ⟨gb175, 5, none⟩) (Kd.R_far (p := ⟨gb175, 4, none⟩) (Kd.R_far (p := ⟨gb175, 3, none⟩) (Kd.R_far (p := ⟨gb175, 2, none⟩) (Kd.R_far (p := ⟨gb175, 1, none⟩) (Kd.R_far (p := ⟨gb175, 0, none⟩) (Kd.R_mono HO_6.out (fun k_ hk => (⟨hk, hk.2⟩ : _ ∧ k_ ≠ gb175))) (fun _ hk => hk.2) (.int .i64 ((rd_T32 l1 x15_1).f0))) (fun _ hk => hk.2) (.int .i64 ((rd_T32 l1 x15_1).f1))) (fun _ hk => hk.2) (.int .i64 ((rd_T32 l1 x15_1).f2))) (fun _ hk => hk.2) (.int .i64 ((rd_T32 l1 x15_1).f3))) (fun _ hk => hk.2) (.int .i64 ((rd_T32 l1 x15_1).f4))) (fun _ hk => hk.2) (.string ((rd_T32 l1 x15_1).f5))) (fun _ hk => hk.2) (.int .i64 ((rd_T32 l1 x15_1).f6))) (fun _ h_ => h_.1))) (Kd.R_base ho0) hb); replace BK164 := sA (blk_below (g := gb164) (o := .cells #[.int .i64 a0_0] 23 (0, 0)) (by (repeat (with_reducible first | refine blk_far ?_ NB164_175.out _ | refine blk_drewN ?_ _ | refine blk_drew ?_ | refine blk_alloc ?_ _)); exact BK164.out) hb); replace BK173 := sA (blk_below (g := gb173) (o := .cells #[.int .i64 x174000_1, .int .i64 x174001_1, .int .i64 x174002_1, .int .i64 x174003_1, .int .i64 x174004_1, .int .i64 x174005_1, .int .i64 x174006_1, .string x174007_1] 27 (0, 0)) (by (repeat (with_reducible first | refine blk_far ?_ NB173_175.out _ | refine blk_drewN ?_ _ | refine blk_drew ?_ | refine blk_alloc ?_ _)); exact BK173.out) hb); replace BK175 := sA (blk_below (g := gb175) (o := .cells #[.int .i64 ((rd_T32 l1 x15_1).f0), .int .i64 ((rd_T32 l1 x15_1).f1), .int .i64 ((rd_T32 l1 x15_1).f2), .int .i64 ((rd_T32 l1 x15_1).f3), .int .i64 ((rd_T32 l1 x15_1).f4), .string ((rd_T32 l1 x15_1).f5), .int .i64 ((rd_T32 l1 x15_1).f6)] 32 (0, 0)) (by (with_reducible repeat (first | refine blk_drewN ?_ _ | refine blk_drew ?_ | refine blk_alloc ?_ _)); refine blk_put7 (.int .i64 0) (.int .i64 0) (.int .i64 0) (.int .i64 0) (.int .i64 0) (.string (⟨#[]⟩ : ByteArray)) (.int .i64 0) ?_; (with_reducible repeat (first | refine blk_drewN ?_ _ | refine blk_drew ?_ | refine blk_alloc ?_ _)); exact BK175.out) hb); replace HB := bst HB hb; (try clear hb); (try clear hk); (try clear ho0)) | ((with_reducible refine gate_dst (N := 9) rfl ?_); refine boxK 9 #[.int .i64 0, .int .i64 0, .int .i64 0, .int .i64 0, .int .i64 0, .int .i64 0, .int .i64 0, .string (⟨#[]⟩ : ByteArray)] 27 ?_; intro gb187 hg w23 hbox hb; have BK187 := sA hbox; have GW187 := bsz HB hg; have GE187 := bsz HB hg; have NB164_187 := bnl BK164 hg; have NB187_164 := bng BK164 hg; have NB173_187 := bnl BK173 hg; have NB187_173 := bng BK173 hg; have NB175_187 := bnl BK175 hg; have NB187_175 := bng BK175 hg; replace HO_6 := sA (Kd.R_below (rkw HO_6.out) hb); replace HO186 := sA (Kd.R_below (rkw HO186.out) hb); replace BK164 := sA (blkb BK164.out hb); replace BK173 := sA (blkb BK173.out hb); replace BK175 := sA (blkb BK175.out hb); replace HB := bst HB hb; clear hb hbox hg; have hnb24 := NB187_164.out; have hnc24 := NB164_187.out; have hnb25 := NB187_173.out; have hnc25 := NB173_187.out; have hnb26 := NB187_175.out; have hnc26 := NB175_187.out; obtain ⟨_,_,_,_,_,_,_,_,_,_,_,_,_,_,_,_⟩ := cQ8 BK187; obtain ⟨_,_,_,_,_,_,_,_,_,_,_,_,_,_,_,_⟩ := cQ8 BK173; obtain ⟨Ao30, co30, eo30⟩ := Kd.R_slice HO186.out; subst eo30) | ((with_reducible refine gate_builtin (b := .append) (xs := #[.tmp 27, .tmp 28]) rfl ?_); at_builtin; refine Kd.R_append_rows k32 (w0 := w) w.heap.size rfl (.tmp 27) (.tmp 28) 24 32 (.agg #[(.int .i64 0), (.int .i64 0), (.int .i64 0), (.int .i64 0), (.int .i64 0), (.string ⟨#[]⟩), (.int .i64 0)]) 64 rfl Tryd.underlying24 info32 rfl (by decide) (by omega) u6 x6_1 t184 _ _ _ (fun k_ => some k_ ≠ (.slice Ao30 t184.length co30 : Value).ownBlock ∧ k_ ≠ gb175) (fun _ => False) rfl rfl ?aO ?aR (fun _ _ h => h) (fun _ h => h.elim) ?aF ?aB ?aS ?aL ?_; (case aR => refine (Kd.R_reads' (e := 32) (base := w.heap.size) (ok := fun k_ => ((True ∧ some k_ ≠ (u6 : Value).ownBlock) ∧ k_ ≠ gb175)) (n := t184.length) (c := co30) ?_).2.2; exact (by (with_reducible repeat (first | apply Kd.R_alloc | apply Kd.R_drewN | apply Kd.R_drew)); exact (Kd.R_mono (Kd.R_mono (Kd.R_far (p := ⟨gb173, 7, none⟩) (Kd.R_far (p := ⟨gb173, 6, none⟩) (Kd.R_far (p := ⟨gb173, 5, none⟩) (Kd.R_far (p := ⟨gb173, 4, none⟩) (Kd.R_far (p := ⟨gb173, 3, none⟩) (Kd.R_far (p := ⟨gb173, 2, none⟩) (Kd.R_far (p := ⟨gb173, 1, none⟩) (Kd.R_far (p := ⟨gb173, 0, none⟩) (Kd.R_far (p := ⟨gb187, 7, none⟩) (Kd.R_far (p := ⟨gb187, 6, none⟩) (Kd.R_far (p := ⟨gb187, 5, none⟩) (Kd.R_far (p := ⟨gb187, 4, none⟩) (Kd.R_far (p := ⟨gb187, 3, none⟩) (Kd.R_far (p := ⟨gb187, 2, none⟩) (Kd.R_far (p := ⟨gb187, 1, none⟩) (Kd.R_far (p := ⟨gb187, 0, none⟩) (Kd.R_types (Kd.R_types HO186.out BK187.out (by decide)) BK173.out (by decide)) (fun _ hk => hk.1.2) (.int .i64 t176)) (fun _ hk => hk.1.2) (.int .i64 t177)) (fun _ hk => hk.1.2) (.int .i64 t178)) (fun _ hk => hk.1.2) (.int .i64 t179)) (fun _ hk => hk.1.2) (.int .i64 t180)) (fun _ hk => hk.1.2) (.int .i64 t181)) (fun _ hk => hk.1.2) (.int .i64 t182)) (fun _ hk => hk.1.2) (.string t183)) (fun _ hk => hk.2) (.int .i64 t176)) (fun _ hk => hk.2) (.int .i64 t177)) (fun _ hk => hk.2) (.int .i64 t178)) (fun _ hk => hk.2) (.int .i64 t179)) (fun _ hk => hk.2) (.int .i64 t180)) (fun _ hk => hk.2) (.int .i64 t181)) (fun _ hk => hk.2) (.int .i64 t182)) (fun _ hk => hk.2) (.string t183)) (fun _ h_ => h_.1)) (fun _ h_ => h_.1)))); (case aB => exact (hbw HB.out)); (case aF => exact (fun k_ hk => ⟨Kd.fresh' (Kd.R_lt (by (with_reducible repeat (first | apply Kd.R_alloc | apply Kd.R_drewN | apply Kd.R_drew)); exact (Kd.R_mono (Kd.R_mono (Kd.R_far (p := ⟨gb173, 7, none⟩) (Kd.R_far (p := ⟨gb173, 6, none⟩) (Kd.R_far (p := ⟨gb173, 5, none⟩) (Kd.R_far (p := ⟨gb173, 4, none⟩) (Kd.R_far (p := ⟨gb173, 3, none⟩) (Kd.R_far (p := ⟨gb173, 2, none⟩) (Kd.R_far (p := ⟨gb173, 1, none⟩) (Kd.R_far (p := ⟨gb173, 0, none⟩) (Kd.R_far (p := ⟨gb187, 7, none⟩) (Kd.R_far (p := ⟨gb187, 6, none⟩) (Kd.R_far (p := ⟨gb187, 5, none⟩) (Kd.R_far (p := ⟨gb187, 4, none⟩) (Kd.R_far (p := ⟨gb187, 3, none⟩) (Kd.R_far (p := ⟨gb187, 2, none⟩) (Kd.R_far (p := ⟨gb187, 1, none⟩) (Kd.R_far (p := ⟨gb187, 0, none⟩) (Kd.R_types (Kd.R_types HO186.out BK187.out (by decide)) BK173.out (by decide)) (fun _ hk => hk.1.2) (.int .i64 t176)) (fun _ hk => hk.1.2) (.int .i64 t177)) (fun _ hk => hk.1.2) (.int .i64 t178)) (fun _ hk => hk.1.2) (.int .i64 t179)) (fun _ hk => hk.1.2) (.int .i64 t180)) (fun _ hk => hk.1.2) (.int .i64 t181)) (fun _ hk => hk.1.2) (.int .i64 t182)) (fun _ hk => hk.1.2) (.string t183)) (fun _ hk => hk.2) (.int .i64 t176)) (fun _ hk => hk.2) (.int .i64 t177)) (fun _ hk => hk.2) (.int .i64 t178)) (fun _ hk => hk.2) (.int .i64 t179)) (fun _ hk => hk.2) (.int .i64 t180)) (fun _ hk => hk.2) (.int .i64 t181)) (fun _ hk => hk.2) (.int .i64 t182)) (fun _ hk => hk.2) (.string t183)) (fun _ h_ => h_.1)) (fun _ h_ => h_.1)))) k_ hk, Kd.freshB (g := gb175) (o := .cells #[.int .i64 ((rd_T32 l1 x15_1).f0), .int .i64 ((rd_T32 l1 x15_1).f1), .int .i64 ((rd_T32 l1 x15_1).f2), .int .i64 ((rd_T32 l1 x15_1).f3), .int .i64 ((rd_T32 l1 x15_1).f4), .string ((rd_T32 l1 x15_1).f5), .int .i64 ((rd_T32 l1 x15_1).f6)] 32 (0, 0)) (by (repeat (with_reducible first | refine blk_far ?_ NB175_173.out _ | refine blk_far ?_ NB175_187.out _ | refine blk_drewN ?_ _ | refine blk_drew ?_ | refine blk_alloc ?_ _)); exact BK175.out) k_ hk⟩)); (case aO => exact (by (with_reducible repeat (first | apply Kd.R_alloc | apply Kd.R_drewN | apply Kd.R_drew)); exact Kd.R_mono (Kd.R_far (p := ⟨gb173, 7, none⟩) (Kd.R_far (p := ⟨gb173, 6, none⟩) (Kd.R_far (p := ⟨gb173, 5, none⟩) (Kd.R_far (p := ⟨gb173, 4, none⟩) (Kd.R_far (p := ⟨gb173, 3, none⟩) (Kd.R_far (p := ⟨gb173, 2, none⟩) (Kd.R_far (p := ⟨gb173, 1, none⟩) (Kd.R_far (p := ⟨gb173, 0, none⟩) (Kd.R_far (p := ⟨gb187, 7, none⟩) (Kd.R_far (p := ⟨gb187, 6, none⟩) (Kd.R_far (p := ⟨gb187, 5, none⟩) (Kd.R_far (p := ⟨gb187, 4, none⟩) (Kd.R_far (p := ⟨gb187, 3, none⟩) (Kd.R_far (p := ⟨gb187, 2, none⟩) (Kd.R_far (p := ⟨gb187, 1, none⟩) (Kd.R_far (p := ⟨gb187, 0, none⟩) (Kd.R_types (Kd.R_types HO_6.out BK187.out (by decide)) BK173.out (by decide)) (fun _ hk => hk.1.2) (.int .i64 t176)) (fun _ hk => hk.1.2) (.int .i64 t177)) (fun _ hk => hk.1.2) (.int .i64 t178)) (fun _ hk => hk.1.2) (.int .i64 t179)) (fun _ hk => hk.1.2) (.int .i64 t180)) (fun _ hk => hk.1.2) (.int .i64 t181)) (fun _ hk => hk.1.2) (.int .i64 t182)) (fun _ hk => hk.1.2) (.string t183)) (fun _ hk => hk.2) (.int .i64 t176)) (fun _ hk => hk.2) (.int .i64 t177)) (fun _ hk => hk.2) (.int .i64 t178)) (fun _ hk => hk.2) (.int .i64 t179)) (fun _ hk => hk.2) (.int .i64 t180)) (fun _ hk => hk.2) (.int .i64 t181)) (fun _ hk => hk.2) (.int .i64 t182)) (fun _ hk => hk.2) (.string t183)) (fun _ hk => ⟨hk.1.1.2, hk.1.1.1.2⟩))); (case aS => exact (below_size (hbw HB.out))); (case aL => have := LMc14.out; omega); intro v189 w29 ho hb hg hat; rw [← Ny188.out] at ho; have n0_ := sA (blk_grown (g := gb164) (o := .cells #[.int .i64 a0_0] 23 (0, 0)) (by (repeat (with_reducible first | refine blk_far ?_ NB164_173.out _ | refine blk_far ?_ NB164_187.out _ | refine blk_drewN ?_ _ | refine blk_drew ?_ | refine blk_alloc ?_ _)); exact BK164.out) hg (Kd.R_ne HO_6.out BK164.out (by decide))); have n1_ := sA (blk_grown (g := gb173) (o := .cells #[.int .i64 t176, .int .i64 t177, .int .i64 t178, .int .i64 t179, .int .i64 t180, .int .i64 t181, .int .i64 t182, .string t183] 27 (0, 0)) (by (with_reducible repeat (first | refine blk_drewN ?_ _ | refine blk_drew ?_ | refine blk_alloc ?_ _)); refine blk_put8 (.int .i64 x174000_1) (.int .i64 x174001_1) (.int .i64 x174002_1) (.int .i64 x174003_1) (.int .i64 x174004_1) (.int .i64 x174005_1) (.int .i64 x174006_1) (.string x174007_1) ?_; (repeat (with_reducible first | refine blk_far ?_ NB173_187.out _ | refine blk_drewN ?_ _ | refine blk_drew ?_ | refine blk_alloc ?_ _)); exact BK173.out) hg (Kd.R_ne HO_6.out BK173.out (by decide))); have n2_ := sA (blk_grown (g := gb175) (o := .cells #[.int .i64 ((rd_T32 l1 x15_1).f0), .int .i64 ((rd_T32 l1 x15_1).f1), .int .i64 ((rd_T32 l1 x15_1).f2), .int .i64 ((rd_T32 l1 x15_1).f3), .int .i64 ((rd_T32 l1 x15_1).f4), .string ((rd_T32 l1 x15_1).f5), .int .i64 ((rd_T32 l1 x15_1).f6)] 32 (0, 0)) (by (repeat (with_reducible first | refine blk_far ?_ NB175_173.out _ | refine blk_far ?_ NB175_187.out _ | refine blk_drewN ?_ _ | refine blk_drew ?_ | refine blk_alloc ?_ _)); exact BK175.out) hg (Kd.R_away HO_6.out (fun _ hk => hk.1.2))); have n3_ := sA (Kd.R_after (ok := (fun k_ => k_ ≠ gb175)) (by (with_reducible repeat (first | apply Kd.R_alloc | apply Kd.R_drewN | apply Kd.R_drew)); exact Kd.R_mono (Kd.R_far (p := ⟨gb173, 7, none⟩) (Kd.R_far (p := ⟨gb173, 6, none⟩) (Kd.R_far (p := ⟨gb173, 5, none⟩) (Kd.R_far (p := ⟨gb173, 4, none⟩) (Kd.R_far (p := ⟨gb173, 3, none⟩) (Kd.R_far (p := ⟨gb173, 2, none⟩) (Kd.R_far (p := ⟨gb173, 1, none⟩) (Kd.R_far (p := ⟨gb173, 0, none⟩) (Kd.R_far (p := ⟨gb187, 7, none⟩) (Kd.R_far (p := ⟨gb187, 6, none⟩) (Kd.R_far (p := ⟨gb187, 5, none⟩) (Kd.R_far (p := ⟨gb187, 4, none⟩) (Kd.R_far (p := ⟨gb187, 3, none⟩) (Kd.R_far (p := ⟨gb187, 2, none⟩) (Kd.R_far (p := ⟨gb187, 1, none⟩) (Kd.R_far (p := ⟨gb187, 0, none⟩) (Kd.R_types (Kd.R_types HO186.out BK187.out (by decide)) BK173.out (by decide)) (fun _ hk => hk.1.2) (.int .i64 t176)) (fun _ hk => hk.1.2) (.int .i64 t177)) (fun _ hk => hk.1.2) (.int .i64 t178)) (fun _ hk => hk.1.2) (.int .i64 t179)) (fun _ hk => hk.1.2) (.int .i64 t180)) (fun _ hk => hk.1.2) (.int .i64 t181)) (fun _ hk => hk.1.2) (.int .i64 t182)) (fun _ hk => hk.1.2) (.string t183)) (fun _ hk => hk.2) (.int .i64 t176)) (fun _ hk => hk.2) (.int .i64 t177)) (fun _ hk => hk.2) (.int .i64 t178)) (fun _ hk => hk.2) (.int .i64 t179)) (fun _ hk => hk.2) (.int .i64 t180)) (fun _ hk => hk.2) (.int .i64 t181)) (fun _ hk => hk.2) (.int .i64 t182)) (fun _ hk => hk.2) (.string t183)) (fun _ hk => ⟨hk.1.1.2, hk.1.1.1.2⟩)) hg hat); have n4_ := sA (blk_grown (g := gb187) (o := .cells #[.int .i64 t176, .int .i64 t177, .int .i64 t178, .int .i64 t179, .int .i64 t180, .int .i64 t181, .int .i64 t182, .string t183] 27 (0, 0)) (by (repeat (with_reducible first | refine blk_far ?_ NB187_173.out _ | refine blk_drewN ?_ _ | refine blk_drew ?_ | refine blk_alloc ?_ _)); (with_reducible repeat (first | refine blk_drewN ?_ _ | refine blk_drew ?_ | refine blk_alloc ?_ _)); refine blk_put8 (.int .i64 0) (.int .i64 0) (.int .i64 0) (.int .i64 0) (.int .i64 0) (.int .i64 0) (.int .i64 0) (.string (⟨#[]⟩ : ByteArray)) ?_; (with_reducible repeat (first | refine blk_drewN ?_ _ | refine blk_drew ?_ | refine blk_alloc ?_ _)); exact BK187.out) hg (Kd.R_ne HO_6.out BK187.out (by decide))); have n5_ := sA (hb); have n6_ := sA (ho); clear BK164; clear BK173; clear BK175; clear HO186; clear BK187; clear HB; clear HO_6; have BK164 := n0_; have BK173 := n1_; have BK175 := n2_; have HO186 := n3_; have BK187 := n4_; have HB := n5_; have HO190 := n6_; clear n0_ n1_ n2_ n3_ n4_ n5_ n6_; clear ho hb hg hat))
       go_roundg k1
       case measure => have := HK1.out; omega
       case rel => exact ⟨(y188), (wrap64 (x15_1 + 1)), (t176), (t177), (t178), (t179), (t180), (t181), (t182), (t183), (by first | rfl | (simp; done) | (simp [*]; done)), H', ⟨by have := HK1.out; omega⟩, ⟨by (with_reducible repeat (first | apply Kd.R_alloc | apply Kd.R_drewN | apply Kd.R_drew)); exact Kd.R_mono HO190.out (fun _ hk => trivial)⟩, ⟨bkw BK164.out⟩, ⟨bkw BK173.out⟩, ⟨hbw HB.out⟩⟩
      ·rw [if_neg c14] at H
       exact absurd H (by simp)
     ·rw [if_neg c12] at H
      exact absurd H (by simp)
    ·rw [if_neg c11] at H
     exact absurd H (by simp)
   ·rw [if_neg c10] at H
    have c10b0 : decide (x15_1 < (l1.length : Int)) = false := decide_eq_false c10; clear c10; replace H := Option.bind_eq_some_iff.mp H; obtain ⟨t191, A310, H⟩ := H; replace H : (if x6_1.length + t191.length < 2199023255552 then (some (x6_1 ++ t191)) else (none)) = some r := H; have A31 := sA A310; clear A310
    by_cases c32 : x6_1.length + t191.length < 2199023255552
    ·rw [if_pos c32] at H
     have LMc32 := sA c32; clear c32; obtain ⟨y194, hy194⟩ : ∃ y_ : List (S32), y_ = (x6_1 ++ t191) := ⟨_, rfl⟩
     replace H : (some y194) = some r := by first | (rw [hy194]; with_reducible exact H) | (have H2_ := (Option.bind_some _ _).symm.trans H; rw [hy194]; with_reducible exact H2_) | (have H2_ := (Option.bind_some _ _).symm.trans H; with_reducible exact H2_) | with_reducible exact H | (rw [hy194]; exact H) | exact H
     have Ny194 := sA hy194; clear hy194; obtain rfl := Option.some.inj H; have hnb33 := NB164_173.out; have hnc33 := NB173_164.out; obtain ⟨_,_⟩ := cQ1 BK164; obtain ⟨_,_,_,_,_,_,_,_,_,_,_,_,_,_,_,_⟩ := cQ8 BK173
     go_wp2_with (first | ((with_reducible refine gate_callee (f := 16) rfl ?_); refine goesK (some 34) Tryd.func16 #[.agg #[.int .i64 a0_0], .agg #[.int .i64 x174000_1, .int .i64 x174001_1, .int .i64 x174002_1, .int .i64 x174003_1, .int .i64 x174004_1, .int .i64 x174005_1, .int .i64 x174006_1, .string x174007_1]] ?_; (with_reducible refine (modbus_End.calls k1 a0_0 x174000_1 x174001_1 x174002_1 x174003_1 x174004_1 x174005_1 x174006_1 x174007_1 t191 _ ?side1 A31.out).mono ?_); (case side1 => refine TabOk.below hT_ ?_; repeat (first | (with_reducible first | exact HB.out | apply below_alloc | apply pw_below_drewN | apply below_drew1 | refine below_set ?_ GE164.out | refine below_set ?_ GE173.out) | exact HB.out)); rintro e w36 ⟨v192, rfl, ho0, hb⟩; refine ⟨_, rfl, ?_⟩; have HO193 := sA (Kd.R_lower (Kd.R_new' ho0 (Kd.R_lt (rkw HO_6.out))) (below_size (hbw HB.out))); replace HO_6 := sA (Kd.R_elder' (rkw HO_6.out) (Kd.R_base ho0) hb); replace BK164 := sA (blkb BK164.out hb); replace BK173 := sA (blkb BK173.out hb); replace HB := bst HB hb; (try clear hb); (try clear hk); (try clear ho0); obtain ⟨Ao38, co38, eo38⟩ := Kd.R_slice HO193.out; subst eo38) | ((with_reducible refine gate_builtin (b := .append) (xs := #[.tmp 31, .tmp 34]) rfl ?_); at_builtin; refine Kd.R_append_rows k32 (w0 := w) w.heap.size rfl (.tmp 31) (.tmp 34) 24 32 (.agg #[(.int .i64 0), (.int .i64 0), (.int .i64 0), (.int .i64 0), (.int .i64 0), (.string ⟨#[]⟩), (.int .i64 0)]) 64 rfl Tryd.underlying24 info32 rfl (by decide) (by omega) u6 x6_1 t191 _ _ _ (fun k_ => some k_ ≠ (.slice Ao38 t191.length co38 : Value).ownBlock) (fun _ => False) rfl rfl ?aO ?aR (fun _ _ h => h) (fun _ h => h.elim) ?aF ?aB ?aS ?aL ?_; (case aR => repeat (first | exact (Kd.R_reads' HO193.out).2.2 | (with_reducible refine Kd.C_alloc ?_ _) | (with_reducible refine Kd.C_drewN ?_ _) | (with_reducible refine Kd.C_drew ?_))); (case aB => exact (hbw HB.out)); (case aF => exact (fun k_ hk => Kd.fresh' (Kd.R_lt (rkw HO193.out)) k_ hk)); (case aO => exact (by (with_reducible repeat (first | apply Kd.R_alloc | apply Kd.R_drewN | apply Kd.R_drew)); exact Kd.R_mono HO_6.out (fun _ hk => hk.2))); (case aS => exact (below_size (hbw HB.out))); (case aL => have := LMc32.out; omega); intro v195 w37 ho hb hg hat; rw [← Ny194.out] at ho; have n0_ := sA (blkg BK164.out hg (Kd.R_ne HO_6.out BK164.out (by decide))); have n1_ := sA (blkg BK173.out hg (Kd.R_ne HO_6.out BK173.out (by decide))); have n2_ := sA (Kd.R_after (ok := (fun _ => True)) (rkw HO193.out) hg hat); have n3_ := sA (hb); have n4_ := sA (ho); clear BK164; clear BK173; clear HO193; clear HB; clear HO_6; have BK164 := n0_; have BK173 := n1_; have HO193 := n2_; have HB := n3_; have HO196 := n4_; clear n0_ n1_ n2_ n3_ n4_; clear ho hb hg hat))
     go_ret
     exact ⟨_, eW_, by (with_reducible repeat (first | apply Kd.R_alloc | apply Kd.R_drewN | apply Kd.R_drew)); exact Kd.R_mono HO196.out (fun _ hk => trivial), hbw HB.out⟩
    ·rw [if_neg c32] at H
     exact absurd H (by simp)

/-! ### modbus_checkItem: function 30 -/
mutual
def modbus_checkItem.j0 : Nat → Bool → Int → Int → Int → Int → ByteArray → Int → Option (Int)
 | 0, _, _, _, _, _, _, _ => none
 | k + 1, x12, x198000, x199000, x199001, x199002, x199003, x199004 => if x12 = true then (some 1) else (if (x199003.size : Int) > 4096 then (some 6) else (if x199001 < 0 then (modbus_checkItem.j1 k true x199000 x199001 x199002 x199003 x199004) else (if x199001 > 255 then (modbus_checkItem.j1 k true x199000 x199001 x199002 x199003 x199004) else (if x199002 < 0 then (modbus_checkItem.j1 k true x199000 x199001 x199002 x199003 x199004) else (if x199002 > 255 then (modbus_checkItem.j1 k true x199000 x199001 x199002 x199003 x199004) else (modbus_checkItem.j1 k (decide ((wrap64 ((wrap64 (x198000 + 1)) + x199000)) > 1048576)) x199000 x199001 x199002 x199003 x199004))))))
def modbus_checkItem.j1 : Nat → Bool → Int → Int → Int → ByteArray → Int → Option (Int)
 | 0, _, _, _, _, _, _ => none
 | k + 1, x43, x199000, x199001, x199002, x199003, x199004 => if x43 = true then (some 2) else (if x199004 = 0 then (some 0) else (if x199004 = 8 then (some 0) else (if x199004 = 3 then (some 0) else (some 1))))
end
def modbus_checkItem.f (k : Nat) (a0_0 : Int) (a1_0 : Int) (a1_1 : Int) (a1_2 : Int) (a1_3 : ByteArray) (a1_4 : Int) : Option (Int) := if a1_0 < 0 then (modbus_checkItem.j0 k true a0_0 a1_0 a1_1 a1_2 a1_3 a1_4) else (modbus_checkItem.j0 k (decide (a1_0 > 1048576)) a0_0 a1_0 a1_1 a1_2 a1_3 a1_4)
theorem modbus_checkItem.mono_l : ∀ k, (∀ y0 y1 y2 y3 y4 y5 y6, LeO (modbus_checkItem.j0 k y0 y1 y2 y3 y4 y5 y6) (modbus_checkItem.j0 (k + 1) y0 y1 y2 y3 y4 y5 y6)) ∧ (∀ y0 y1 y2 y3 y4 y5, LeO (modbus_checkItem.j1 k y0 y1 y2 y3 y4 y5) (modbus_checkItem.j1 (k + 1) y0 y1 y2 y3 y4 y5))
 | 0 => ⟨fun _ _ _ _ _ _ _ r h => by simp [modbus_checkItem.j0] at h, fun _ _ _ _ _ _ r h => by simp [modbus_checkItem.j1] at h⟩
 | k + 1 => by
  obtain ⟨ih0, ih1⟩ := modbus_checkItem.mono_l k; refine ⟨?_, ?_⟩
  ·intro y0 y1 y2 y3 y4 y5 y6
   unfold modbus_checkItem.j0
   repeat' first
   | (with_reducible exact ih0 _ _ _ _ _ _ _)
   | (with_reducible exact ih1 _ _ _ _ _ _)
   | (with_reducible exact LeO.refl _)
   | (with_reducible exact LeO.none _)
   | (with_reducible refine LeO.ite ?_ ?_)
   | (with_reducible refine LeO.bind ?_ (fun _ => ?_))
   | exact ih0 _ _ _ _ _ _ _
   | exact ih1 _ _ _ _ _ _
   | exact LeO.none _
   | refine LeO.ite ?_ ?_
   | refine LeO.bind ?_ (fun _ => ?_)
  ·intro y0 y1 y2 y3 y4 y5
   unfold modbus_checkItem.j1
   repeat' first
   | (with_reducible exact ih0 _ _ _ _ _ _ _)
   | (with_reducible exact ih1 _ _ _ _ _ _)
   | (with_reducible exact LeO.refl _)
   | (with_reducible exact LeO.none _)
   | (with_reducible refine LeO.ite ?_ ?_)
   | (with_reducible refine LeO.bind ?_ (fun _ => ?_))
   | exact ih0 _ _ _ _ _ _ _
   | exact ih1 _ _ _ _ _ _
   | exact LeO.none _
   | refine LeO.ite ?_ ?_
   | refine LeO.bind ?_ (fun _ => ?_)
theorem modbus_checkItem.mono : ∀ a0 a1 a2 a3 a4 a5 k, LeO (modbus_checkItem.f k a0 a1 a2 a3 a4 a5) (modbus_checkItem.f (k + 1) a0 a1 a2 a3 a4 a5) := by
 intro a0 a1 a2 a3 a4 a5 k; obtain ⟨ih0, ih1⟩ := modbus_checkItem.mono_l k
 unfold modbus_checkItem.f
 repeat' first
   | (with_reducible exact ih0 _ _ _ _ _ _ _)
   | (with_reducible exact ih1 _ _ _ _ _ _)
   | (with_reducible exact LeO.refl _)
   | (with_reducible exact LeO.none _)
   | (with_reducible refine LeO.ite ?_ ?_)
   | (with_reducible refine LeO.bind ?_ (fun _ => ?_))
   | exact ih0 _ _ _ _ _ _ _
   | exact ih1 _ _ _ _ _ _
   | exact LeO.none _
   | refine LeO.ite ?_ ?_
   | refine LeO.bind ?_ (fun _ => ?_)
set_option maxHeartbeats 8000000 in
set_option maxRecDepth 100000 in
theorem modbus_checkItem.calls (k : Nat) (a0_0 : Int) (a1_0 : Int) (a1_1 : Int) (a1_2 : Int) (a1_3 : ByteArray) (a1_4 : Int) (r : Int) (w : World) (h : modbus_checkItem.f k a0_0 a1_0 a1_1 a1_2 a1_3 a1_4 = some r) :
  Calls Tryd.prog 30 #[.agg #[.int .i64 a0_0], .agg #[.int .i64 a1_0, .int .i64 a1_1, .int .i64 a1_2, .string a1_3, .int .i64 a1_4]] w fun e w' => e = .returned (.int .i64 r) ∧ Below w.heap.size w w' := by
 have hu23 := Tryd.underlying23; have hu48 := Tryd.underlying48; have HB := sA (Below.refl w.heap.size w); have H : (if a1_0 < 0 then (modbus_checkItem.j0 k true a0_0 a1_0 a1_1 a1_2 a1_3 a1_4) else (modbus_checkItem.j0 k (decide (a1_0 > 1048576)) a0_0 a1_0 a1_1 a1_2 a1_3 a1_4)) = some r := h; clear h; have HC3 := sA H; clear H
 go_enter Tryd.func30, Tryd.ntmps30
 go_upto_region 1 with (first | ((with_reducible refine gate_dst (N := 2) rfl ?_); refine boxK 2 #[.int .i64 a0_0] 23 ?_; intro gb197 hg w4 hbox hb; have BK197 := sA hbox; have GW197 := bsz HB hg; have GE197 := bsz HB hg; replace HB := bst HB hb; clear hb hbox hg) | ((with_reducible refine gate_dst (N := 3) rfl ?_); refine boxK 3 #[.int .i64 a1_0, .int .i64 a1_1, .int .i64 a1_2, .string a1_3, .int .i64 a1_4] 48 ?_; intro gb198 hg w5 hbox hb; have BK198 := sA hbox; have GW198 := bsz HB hg; have GE198 := bsz HB hg; have NB197_198 := bnl BK197 hg; have NB198_197 := bng BK197 hg; replace BK197 := sA (blkb BK197.out hb); replace HB := bst HB hb; clear hb hbox hg))
 (try simp only [Act.put, List.setIfInBounds_toArray, List.set_cons_zero, List.set_cons_succ])
 go_cut [12] (fun v12 wc => ∃ (kq : Nat) (x12_2 : Bool), v12 = .bool x12_2 ∧ Aside0 (modbus_checkItem.j0 kq x12_2 a0_0 a1_0 a1_1 a1_2 a1_3 a1_4 = some r) ∧ Aside0 (kq ≤ k) ∧ Aside0 (wc.heap[gb197]? = some (.cells #[.int .i64 a0_0] 23 (0, 0))) ∧ Aside0 (wc.heap[gb198]? = some (.cells #[.int .i64 a1_0, .int .i64 a1_1, .int .i64 a1_2, .string a1_3, .int .i64 a1_4] 48 (0, 0))) ∧ Aside0 (Below w.heap.size w wc))
 case first =>
  have H := HC3.out; clear HC3
  by_cases c6 : a1_0 < 0
  ·rw [if_pos c6] at H
   have c6b0 : decide (a1_0 < 0) = true := decide_eq_true c6; clear c6
   (first | rw [c6b0] | (simp only [i64_w, i32_w]; rw [c6b0]) | skip)
   have H' := sA H; clear H; have hnb7 := NB198_197.out; have hnc7 := NB197_198.out; obtain ⟨_,_,_,_,_,_,_,_,_,_⟩ := cQ5 BK198
   go_wp2
   go_meet
   case rel => exact ⟨_, (true), (by first | rfl | (simp; done) | (simp [*]; done)), H', ⟨by first | omega | exact Nat.le_refl _⟩, ⟨bkw BK197.out⟩, ⟨bkw BK198.out⟩, ⟨hbw HB.out⟩⟩
  ·rw [if_neg c6] at H
   have c6b0 : decide (a1_0 < 0) = false := decide_eq_false c6; clear c6
   (first | rw [c6b0] | (simp only [i64_w, i32_w]; rw [c6b0]) | skip)
   have H' := sA H; clear H; have hnb9 := NB198_197.out; have hnc9 := NB197_198.out; obtain ⟨_,_,_,_,_,_,_,_,_,_⟩ := cQ5 BK198
   go_wp2
   go_meet
   case rel => exact ⟨_, (decide (a1_0 > 1048576)), (by first | rfl | (simp; done) | (simp [*]; done)), H', ⟨by first | omega | exact Nat.le_refl _⟩, ⟨bkw BK197.out⟩, ⟨bkw BK198.out⟩, ⟨hbw HB.out⟩⟩
 case rest =>
  clear HC3
  obtain ⟨kq, x12_2, rfl, HA, HJ2, BK197, BK198, HB⟩ := hcut
  cases kq with
  | zero => exact absurd HA.out (by simp [modbus_checkItem.j0])
  | succ kj2 =>
   have H := HA.out; clear HA
   simp only [modbus_checkItem.j0] at H
   by_cases c11 : x12_2 = true
   ·subst c11
    have H1 : (some 1) = some r := by rw [if_pos rfl] at H; exact H
    clear H; have H := H1; clear H1; obtain rfl := Option.some.inj H
    go_wp2
    go_ret
    exact ⟨eW_, hbw HB.out⟩
   ·replace c11 := Bool.eq_false_iff.mpr c11
    subst c11
    have H1 : (if (a1_3.size : Int) > 4096 then (some 6) else (if a1_1 < 0 then (modbus_checkItem.j1 kj2 true a1_0 a1_1 a1_2 a1_3 a1_4) else (if a1_1 > 255 then (modbus_checkItem.j1 kj2 true a1_0 a1_1 a1_2 a1_3 a1_4) else (if a1_2 < 0 then (modbus_checkItem.j1 kj2 true a1_0 a1_1 a1_2 a1_3 a1_4) else (if a1_2 > 255 then (modbus_checkItem.j1 kj2 true a1_0 a1_1 a1_2 a1_3 a1_4) else (modbus_checkItem.j1 kj2 (decide ((wrap64 ((wrap64 (a0_0 + 1)) + a1_0)) > 1048576)) a1_0 a1_1 a1_2 a1_3 a1_4)))))) = some r := by rw [if_neg (show ¬ (false = true) by decide)] at H; exact H
    clear H; have H := H1; clear H1
    by_cases c12 : (a1_3.size : Int) > 4096
    ·rw [if_pos c12] at H
     have c12b0 : decide (4096 < (a1_3.size : Int)) = true := decide_eq_true c12; have c12b1 : decide (4096 < a1_3.size) = true := decide_eq_true (by omega); clear c12; obtain rfl := Option.some.inj H; have hnb13 := NB198_197.out; have hnc13 := NB197_198.out; obtain ⟨hcz14_0,hcz14_1,hcz14_2,hcz14_3,hcz14_4,hfz14_0,hfz14_1,hfz14_2,hfz14_3,hfz14_4⟩ := cQ5 BK198
     go_wp2
     go_ret
     exact ⟨eW_, hbw HB.out⟩
    ·rw [if_neg c12] at H
     have c12b0 : decide (4096 < (a1_3.size : Int)) = false := decide_eq_false c12; have c12b1 : decide (4096 < a1_3.size) = false := decide_eq_false (by omega); clear c12; have HC15 := sA H; clear H; have hnb16 := NB198_197.out; have hnc16 := NB197_198.out; obtain ⟨hcz17_0,hcz17_1,hcz17_2,hcz17_3,hcz17_4,hfz17_0,hfz17_1,hfz17_2,hfz17_3,hfz17_4⟩ := cQ5 BK198
     go_upto_region 5 with (fail)
     go_cut [43] (fun v43 wc => ∃ (kq : Nat) (x43_14 : Bool), v43 = .bool x43_14 ∧ Aside0 (modbus_checkItem.j1 kq x43_14 a1_0 a1_1 a1_2 a1_3 a1_4 = some r) ∧ Aside0 (kq ≤ kj2) ∧ Aside0 (wc.heap[gb197]? = some (.cells #[.int .i64 a0_0] 23 (0, 0))) ∧ Aside0 (wc.heap[gb198]? = some (.cells #[.int .i64 a1_0, .int .i64 a1_1, .int .i64 a1_2, .string a1_3, .int .i64 a1_4] 48 (0, 0))) ∧ Aside0 (Below w.heap.size w wc))
     case first =>
      have H := HC15.out; clear HC15
      by_cases c18 : a1_1 < 0
      ·rw [if_pos c18] at H
       have c18b0 : decide (a1_1 < 0) = true := decide_eq_true c18; clear c18
       (first | rw [c18b0] | (simp only [i64_w, i32_w]; rw [c18b0]) | skip)
       have H' := sA H; clear H; have hnb19 := NB198_197.out; have hnc19 := NB197_198.out; obtain ⟨_,_,_,_,_,_,_,_,_,_⟩ := cQ5 BK198
       go_wp2
       go_meet
       case rel => exact ⟨_, (true), (by first | rfl | (simp; done) | (simp [*]; done)), H', ⟨by have := HJ2.out; first | omega | exact Nat.le_refl _⟩, ⟨bkw BK197.out⟩, ⟨bkw BK198.out⟩, ⟨hbw HB.out⟩⟩
      ·rw [if_neg c18] at H
       have c18b0 : decide (a1_1 < 0) = false := decide_eq_false c18; clear c18
       (first | rw [c18b0] | (simp only [i64_w, i32_w]; rw [c18b0]) | skip)
       by_cases c21 : a1_1 > 255
       ·rw [if_pos c21] at H
        have c21b0 : decide (255 < a1_1) = true := decide_eq_true c21; clear c21; have H' := sA H; clear H; have hnb22 := NB198_197.out; have hnc22 := NB197_198.out; obtain ⟨_,_,_,_,_,_,_,_,_,_⟩ := cQ5 BK198
        go_wp2
        go_meet
        case rel => exact ⟨_, (true), (by first | rfl | (simp; done) | (simp [*]; done)), H', ⟨by have := HJ2.out; first | omega | exact Nat.le_refl _⟩, ⟨bkw BK197.out⟩, ⟨bkw BK198.out⟩, ⟨hbw HB.out⟩⟩
       ·rw [if_neg c21] at H
        have c21b0 : decide (255 < a1_1) = false := decide_eq_false c21; clear c21
        by_cases c24 : a1_2 < 0
        ·rw [if_pos c24] at H
         have c24b0 : decide (a1_2 < 0) = true := decide_eq_true c24; clear c24; have H' := sA H; clear H; have hnb25 := NB198_197.out; have hnc25 := NB197_198.out; obtain ⟨_,_,_,_,_,_,_,_,_,_⟩ := cQ5 BK198
         go_wp2
         go_meet
         case rel => exact ⟨_, (true), (by first | rfl | (simp; done) | (simp [*]; done)), H', ⟨by have := HJ2.out; first | omega | exact Nat.le_refl _⟩, ⟨bkw BK197.out⟩, ⟨bkw BK198.out⟩, ⟨hbw HB.out⟩⟩
        ·rw [if_neg c24] at H
         have c24b0 : decide (a1_2 < 0) = false := decide_eq_false c24; clear c24
         by_cases c27 : a1_2 > 255
         ·rw [if_pos c27] at H
          have c27b0 : decide (255 < a1_2) = true := decide_eq_true c27; clear c27; have H' := sA H; clear H; have hnb28 := NB198_197.out; have hnc28 := NB197_198.out; obtain ⟨_,_,_,_,_,_,_,_,_,_⟩ := cQ5 BK198
          go_wp2
          go_meet
          case rel => exact ⟨_, (true), (by first | rfl | (simp; done) | (simp [*]; done)), H', ⟨by have := HJ2.out; first | omega | exact Nat.le_refl _⟩, ⟨bkw BK197.out⟩, ⟨bkw BK198.out⟩, ⟨hbw HB.out⟩⟩
         ·rw [if_neg c27] at H
          have c27b0 : decide (255 < a1_2) = false := decide_eq_false c27; clear c27; have H' := sA H; clear H; have hnb30 := NB198_197.out; have hnc30 := NB197_198.out; obtain ⟨_,_,_,_,_,_,_,_,_,_⟩ := cQ5 BK198; obtain ⟨_,_⟩ := cQ1 BK197
          go_wp2
          go_meet
          case rel => exact ⟨_, (decide ((wrap64 ((wrap64 (a0_0 + 1)) + a1_0)) > 1048576)), (by first | rfl | (simp; done) | (simp [*]; done)), H', ⟨by have := HJ2.out; first | omega | exact Nat.le_refl _⟩, ⟨bkw BK197.out⟩, ⟨bkw BK198.out⟩, ⟨hbw HB.out⟩⟩
     case rest =>
      clear HC15
      try clear c1
      try clear c11
      try clear c12
      try clear c12b0
      try clear c12b1
      try clear hcz14_0
      try clear hcz14_1
      try clear hcz14_2
      try clear hcz14_3
      try clear hcz14_4
      try clear hcz17_0
      try clear hcz17_1
      try clear hcz17_2
      try clear hcz17_3
      try clear hcz17_4
      try clear hfz14_0
      try clear hfz14_1
      try clear hfz14_2
      try clear hfz14_3
      try clear hfz14_4
      try clear hfz17_0
      try clear hfz17_1
      try clear hfz17_2
      try clear hfz17_3
      try clear hfz17_4
      obtain ⟨kq, x43_14, rfl, HA, HJ14, BK197, BK198, HB⟩ := hcut
      cases kq with
      | zero => exact absurd HA.out (by simp [modbus_checkItem.j1])
      | succ kj14 =>
       have H := HA.out; clear HA
       simp only [modbus_checkItem.j1] at H
       by_cases c33 : x43_14 = true
       ·subst c33
        have H1 : (some 2) = some r := by rw [if_pos rfl] at H; exact H
        clear H; have H := H1; clear H1; obtain rfl := Option.some.inj H
        go_wp2
        go_ret
        exact ⟨eW_, hbw HB.out⟩
       ·replace c33 := Bool.eq_false_iff.mpr c33
        subst c33
        have H1 : (if a1_4 = 0 then (some 0) else (if a1_4 = 8 then (some 0) else (if a1_4 = 3 then (some 0) else (some 1)))) = some r := by rw [if_neg (show ¬ (false = true) by decide)] at H; exact H
        clear H; have H := H1; clear H1
        by_cases c34 : a1_4 = 0
        ·rw [if_pos c34] at H
         have c34b0 : (a1_4 == 0) = true := beq_iff_eq.mpr c34; have c34b1 : (a1_4 != 0) = false := bne_eq_false_iff_eq.mpr c34; clear c34; obtain rfl := Option.some.inj H; have hnb35 := NB198_197.out; have hnc35 := NB197_198.out; obtain ⟨_,_,_,_,_,_,_,_,_,_⟩ := cQ5 BK198
         go_wp2
         go_ret
         exact ⟨eW_, hbw HB.out⟩
        ·rw [if_neg c34] at H
         have c34b0 : (a1_4 == 0) = false := beq_eq_false_iff_ne.mpr c34; have c34b1 : (a1_4 != 0) = true := bne_iff_ne.mpr c34
         by_cases c37 : a1_4 = 8
         ·rw [if_pos c37] at H
          have c37b0 : (a1_4 == 8) = true := beq_iff_eq.mpr c37; have c37b1 : (a1_4 != 8) = false := bne_eq_false_iff_eq.mpr c37; clear c37; obtain rfl := Option.some.inj H; have hnb38 := NB198_197.out; have hnc38 := NB197_198.out; obtain ⟨_,_,_,_,_,_,_,_,_,_⟩ := cQ5 BK198
          go_wp2
          go_ret
          exact ⟨eW_, hbw HB.out⟩
         ·rw [if_neg c37] at H
          have c37b0 : (a1_4 == 8) = false := beq_eq_false_iff_ne.mpr c37; have c37b1 : (a1_4 != 8) = true := bne_iff_ne.mpr c37
          by_cases c40 : a1_4 = 3
          ·rw [if_pos c40] at H
           have c40b0 : (a1_4 == 3) = true := beq_iff_eq.mpr c40; have c40b1 : (a1_4 != 3) = false := bne_eq_false_iff_eq.mpr c40; clear c40; obtain rfl := Option.some.inj H; have hnb41 := NB198_197.out; have hnc41 := NB197_198.out; obtain ⟨_,_,_,_,_,_,_,_,_,_⟩ := cQ5 BK198
           go_wp2
           go_ret
           exact ⟨eW_, hbw HB.out⟩
          ·rw [if_neg c40] at H
           have c40b0 : (a1_4 == 3) = false := beq_eq_false_iff_ne.mpr c40; have c40b1 : (a1_4 != 3) = true := bne_iff_ne.mpr c40; obtain rfl := Option.some.inj H; have hnb43 := NB198_197.out; have hnc43 := NB197_198.out; obtain ⟨_,_,_,_,_,_,_,_,_,_⟩ := cQ5 BK198
           go_wp2
           go_ret
           exact ⟨eW_, hbw HB.out⟩

end Go.Proofs.YtmalhgidhieamaaDoor.PModbusDecodes
