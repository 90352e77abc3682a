-- Written by a program of this session (wip/tools/pr.py), which calls the kit's print with changes of its own.
import Derived.Test.YtmalhgidhieamaaDoorPModbusDecodesx0
import Derived.Test.YtmalhgidhieamaaDoorPModbusDecodesx3
import Derived.Test.YtmalhgidhieamaaDoorPModbusDecodesx8
import Derived.Test.YtmalhgidhieamaaDoorPModbusDecodesx9
namespace Go.Proofs.YtmalhgidhieamaaDoor.PModbusDecodes
open Go.RowKit Go.Proofs.YtmalhgidhieamaaDoorW.PrintWords Go.Proofs.YtmalhgidhieamaaDoorW.PrintLast Go.Proofs.YtmalhgidhieamaaDoorW.PrintMore
attribute [local go_sem] max2_int min2_int max_two min_two max_three min_three max_four min_four   -- for this text's walks alone
set_option linter.unusedVariables false
set_option linter.unusedSimpArgs false

/-! ### modbus_Encode: function 21 -/
mutual
def modbus_Encode.j0 : Nat → List (S48) → Int → Option ((List (S48)) × Int)
 | 0, _, _ => none
 | k + 1, x1, x208000 => if (x1.length : Int) > 1024 then (some (([] : List (S48)), 6)) else (modbus_Encode.j1 k x1 x208000)
def modbus_Encode.j1 : Nat → List (S48) → Int → Option ((List (S48)) × Int)
 | 0, _, _ => none
 | k + 1, x1, x208000 => modbus_Encode.l0 k x1 x1 (x1.length : Int) 0 x208000
def modbus_Encode.l0 : Nat → List (S48) → List (S48) → Int → Int → Int → Option ((List (S48)) × Int)
 | 0, _, _, _, _, _ => none
 | k + 1, x1, x24, x25, x26, x208000 => if x26 < x25 then (if 0 ≤ x26 then (if x26 < (x24.length : Int) then ((modbus_checkItem.f k x208000 ((rd_T48 x24 x26).f0) ((rd_T48 x24 x26).f1) ((rd_T48 x24 x26).f2) ((rd_T48 x24 x26).f3) ((rd_T48 x24 x26).f4)).bind fun t211 => (if t211 = 0 then (modbus_Encode.l0 k x1 x24 x25 (wrap64 (x26 + 1)) x208000) else (some (([] : List (S48)), t211)))) else (none)) else (none)) else (modbus_Encode.l1 k ([] : List (S48)) x1 (x1.length : Int) 0 x208000)
def modbus_Encode.l1 : Nat → List (S48) → List (S48) → Int → Int → Int → Option ((List (S48)) × Int)
 | 0, _, _, _, _, _ => none
 | k + 1, x10, x37, x38, x39, x208000 => if x39 < x38 then (modbus_Encode.j4 k x10 x37 x38 x39 x208000) else (some (x10, 0))
def modbus_Encode.j4 : Nat → List (S48) → List (S48) → Int → Int → Int → Option ((List (S48)) × Int)
 | 0, _, _, _, _, _ => none
 | k + 1, x10, x37, x38, x39, x208000 => if 0 ≤ x39 then (if x39 < (x37.length : Int) then ((modbus_send.f k ((rd_T48 x37 x39).f0) ((rd_T48 x37 x39).f1) ((rd_T48 x37 x39).f2) ((rd_T48 x37 x39).f3) ((rd_T48 x37 x39).f4)).bind fun t214 => (if (wrap64 ((x10.length : Int) + (t214.size : Int))) > 262144 then (some (([] : List (S48)), 6)) else (modbus_Encode.j5 k x10 t214 x37 x38 x39 x208000 ((rd_T48 x37 x39).f0) ((rd_T48 x37 x39).f1) ((rd_T48 x37 x39).f2) ((rd_T48 x37 x39).f3) ((rd_T48 x37 x39).f4)))) else (none)) else (none)
def modbus_Encode.j5 : Nat → List (S48) → ByteArray → List (S48) → Int → Int → Int → Int → Int → Int → ByteArray → Int → Option ((List (S48)) × Int)
 | 0, _, _, _, _, _, _, _, _, _, _, _ => none
 | k + 1, x10, x13, x37, x38, x39, x208000, x214000, x214001, x214002, x214003, x214004 => modbus_Encode.l2 k x10 x13 x37 x38 x39 (x13.size : Int) 0 x208000 x214000 x214001 x214002 x214003 x214004
def modbus_Encode.l2 : Nat → List (S48) → ByteArray → List (S48) → Int → Int → Int → Int → Int → Int → Int → Int → ByteArray → Int → Option ((List (S48)) × Int)
 | 0, _, _, _, _, _, _, _, _, _, _, _, _, _ => none
 | k + 1, x10, x13, x37, x38, x39, x52, x53, x208000, x214000, x214001, x214002, x214003, x214004 => if x53 < x52 then (if 0 ≤ x53 then (if x53 < (x13.size : Int) then (if x53 = 0 then (if x10.length < 2932031007402 then (modbus_Encode.l2 k (x10 ++ [(⟨wrap64 ((wrap64 (x208000 + 1)) + x214000), wrap64 (bt x13 x53), 0, (⟨#[]⟩ : ByteArray), 0⟩ : S48)]) x13 x37 x38 x39 x52 (wrap64 (x53 + 1)) x208000 x214000 x214001 x214002 x214003 x214004) else (none)) else (if x10.length < 2932031007402 then (modbus_Encode.l2 k (x10 ++ [(⟨0, wrap64 (bt x13 x53), 0, (⟨#[]⟩ : ByteArray), 0⟩ : S48)]) x13 x37 x38 x39 x52 (wrap64 (x53 + 1)) x208000 x214000 x214001 x214002 x214003 x214004) else (none))) else (none)) else (none)) else (modbus_Encode.l1 k x10 x37 x38 (wrap64 (x39 + 1)) x208000)
end
def modbus_Encode.f (k : Nat) (a0_0 : Int) (l1 : List (S48)) : Option ((List (S48)) × Int) := (modbus_Check.f a0_0).bind fun t208 => (if t208 = 0 then (modbus_Encode.j0 k l1 a0_0) else (some (([] : List (S48)), t208)))
theorem modbus_Encode.mono_l : ∀ k, (∀ y0 y1, LeO (modbus_Encode.j0 k y0 y1) (modbus_Encode.j0 (k + 1) y0 y1)) ∧ (∀ y0 y1, LeO (modbus_Encode.j1 k y0 y1) (modbus_Encode.j1 (k + 1) y0 y1)) ∧ (∀ y0 y1 y2 y3 y4, LeO (modbus_Encode.l0 k y0 y1 y2 y3 y4) (modbus_Encode.l0 (k + 1) y0 y1 y2 y3 y4)) ∧ (∀ y0 y1 y2 y3 y4, LeO (modbus_Encode.l1 k y0 y1 y2 y3 y4) (modbus_Encode.l1 (k + 1) y0 y1 y2 y3 y4)) ∧ (∀ y0 y1 y2 y3 y4, LeO (modbus_Encode.j4 k y0 y1 y2 y3 y4) (modbus_Encode.j4 (k + 1) y0 y1 y2 y3 y4)) ∧ (∀ y0 y1 y2 y3 y4 y5 y6 y7 y8 y9 y10, LeO (modbus_Encode.j5 k y0 y1 y2 y3 y4 y5 y6 y7 y8 y9 y10) (modbus_Encode.j5 (k + 1) y0 y1 y2 y3 y4 y5 y6 y7 y8 y9 y10)) ∧ (∀ y0 y1 y2 y3 y4 y5 y6 y7 y8 y9 y10 y11 y12, LeO (modbus_Encode.l2 k y0 y1 y2 y3 y4 y5 y6 y7 y8 y9 y10 y11 y12) (modbus_Encode.l2 (k + 1) y0 y1 y2 y3 y4 y5 y6 y7 y8 y9 y10 y11 y12))
 | 0 => ⟨fun _ _ r h => by simp [modbus_Encode.j0] at h, fun _ _ r h => by simp [modbus_Encode.j1] at h, fun _ _ _ _ _ r h => by simp [modbus_Encode.l0] at h, fun _ _ _ _ _ r h => by simp [modbus_Encode.l1] at h, fun _ _ _ _ _ r h => by simp [modbus_Encode.j4] at h, fun _ _ _ _ _ _ _ _ _ _ _ r h => by simp [modbus_Encode.j5] at h, fun _ _ _ _ _ _ _ _ _ _ _ _ _ r h => by simp [modbus_Encode.l2] at h⟩
 | k + 1 => by
  obtain ⟨ih0, ih1, ih2, ih3, ih4, ih5, ih6⟩ := modbus_Encode.mono_l k
  refine ⟨?_, ?_, ?_, ?_, ?_, ?_, ?_⟩
  ·intro y0 y1
   unfold modbus_Encode.j0
   repeat' first
   | (with_reducible exact ih0 _ _)
   | (with_reducible exact ih1 _ _)
   | (with_reducible exact ih2 _ _ _ _ _)
   | (with_reducible exact ih3 _ _ _ _ _)
   | (with_reducible exact ih4 _ _ _ _ _)
   | (with_reducible exact ih5 _ _ _ _ _ _ _ _ _ _ _)
   | (with_reducible exact ih6 _ _ _ _ _ _ _ _ _ _ _ _ _)
   | (with_reducible exact modbus_checkItem.mono _ _ _ _ _ _ _)
   | (with_reducible exact modbus_send.mono _ _ _ _ _ _)
   | (with_reducible exact LeO.refl _)
   | (with_reducible exact LeO.none _)
   | (with_reducible refine LeO.ite ?_ ?_)
   | (with_reducible refine LeO.bind ?_ (fun _ => ?_))
   | exact ih0 _ _
   | exact ih1 _ _
   | exact ih2 _ _ _ _ _
   | exact ih3 _ _ _ _ _
   | exact ih4 _ _ _ _ _
   | exact ih5 _ _ _ _ _ _ _ _ _ _ _
   | exact ih6 _ _ _ _ _ _ _ _ _ _ _ _ _
   | exact modbus_checkItem.mono _ _ _ _ _ _ _
   | exact modbus_send.mono _ _ _ _ _ _
   | exact LeO.none _
   | refine LeO.ite ?_ ?_
   | refine LeO.bind ?_ (fun _ => ?_)
  ·intro y0 y1
   unfold modbus_Encode.j1
   repeat' first
   | (with_reducible exact ih0 _ _)
   | (with_reducible exact ih1 _ _)
   | (with_reducible exact ih2 _ _ _ _ _)
   | (with_reducible exact ih3 _ _ _ _ _)
   | (with_reducible exact ih4 _ _ _ _ _)
   | (with_reducible exact ih5 _ _ _ _ _ _ _ _ _ _ _)
   | (with_reducible exact ih6 _ _ _ _ _ _ _ _ _ _ _ _ _)
   | (with_reducible exact modbus_checkItem.mono _ _ _ _ _ _ _)
   | (with_reducible exact modbus_send.mono _ _ _ _ _ _)
   | (with_reducible exact LeO.refl _)
   | (with_reducible exact LeO.none _)
   | (with_reducible refine LeO.ite ?_ ?_)
   | (with_reducible refine LeO.bind ?_ (fun _ => ?_))
   | exact ih0 _ _
   | exact ih1 _ _
   | exact ih2 _ _ _ _ _
   | exact ih3 _ _ _ _ _
   | exact ih4 _ _ _ _ _
   | exact ih5 _ _ _ _ _ _ _ _ _ _ _
   | exact ih6 _ _ _ _ _ _ _ _ _ _ _ _ _
   | exact modbus_checkItem.mono _ _ _ _ _ _ _
   | exact modbus_send.mono _ _ _ _ _ _
   | exact LeO.none _
   | refine LeO.ite ?_ ?_
   | refine LeO.bind ?_ (fun _ => ?_)
  ·intro y0 y1 y2 y3 y4
   unfold modbus_Encode.l0
   repeat' first
   | (with_reducible exact ih0 _ _)
   | (with_reducible exact ih1 _ _)
   | (with_reducible exact ih2 _ _ _ _ _)
   | (with_reducible exact ih3 _ _ _ _ _)
   | (with_reducible exact ih4 _ _ _ _ _)
   | (with_reducible exact ih5 _ _ _ _ _ _ _ _ _ _ _)
   | (with_reducible exact ih6 _ _ _ _ _ _ _ _ _ _ _ _ _)
   | (with_reducible exact modbus_checkItem.mono _ _ _ _ _ _ _)
   | (with_reducible exact modbus_send.mono _ _ _ _ _ _)
   | (with_reducible exact LeO.refl _)
   | (with_reducible exact LeO.none _)
   | (with_reducible refine LeO.ite ?_ ?_)
   | (with_reducible refine LeO.bind ?_ (fun _ => ?_))
   | exact ih0 _ _
   | exact ih1 _ _
   | exact ih2 _ _ _ _ _
   | exact ih3 _ _ _ _ _
   | exact ih4 _ _ _ _ _
   | exact ih5 _ _ _ _ _ _ _ _ _ _ _
   | exact ih6 _ _ _ _ _ _ _ _ _ _ _ _ _
   | exact modbus_checkItem.mono _ _ _ _ _ _ _
   | exact modbus_send.mono _ _ _ _ _ _
   | exact LeO.none _
   | refine LeO.ite ?_ ?_
   | refine LeO.bind ?_ (fun _ => ?_)
  ·intro y0 y1 y2 y3 y4
   unfold modbus_Encode.l1
   repeat' first
   | (with_reducible exact ih0 _ _)
   | (with_reducible exact ih1 _ _)
   | (with_reducible exact ih2 _ _ _ _ _)
   | (with_reducible exact ih3 _ _ _ _ _)
   | (with_reducible exact ih4 _ _ _ _ _)
   | (with_reducible exact ih5 _ _ _ _ _ _ _ _ _ _ _)
   | (with_reducible exact ih6 _ _ _ _ _ _ _ _ _ _ _ _ _)
   | (with_reducible exact modbus_checkItem.mono _ _ _ _ _ _ _)
   | (with_reducible exact modbus_send.mono _ _ _ _ _ _)
   | (with_reducible exact LeO.refl _)
   | (with_reducible exact LeO.none _)
   | (with_reducible refine LeO.ite ?_ ?_)
   | (with_reducible refine LeO.bind ?_ (fun _ => ?_))
   | exact ih0 _ _
   | exact ih1 _ _
   | exact ih2 _ _ _ _ _
   | exact ih3 _ _ _ _ _
   | exact ih4 _ _ _ _ _
   | exact ih5 _ _ _ _ _ _ _ _ _ _ _
   | exact ih6 _ _ _ _ _ _ _ _ _ _ _ _ _
   | exact modbus_checkItem.mono _ _ _ _ _ _ _
   | exact modbus_send.mono _ _ _ _ _ _
   | exact LeO.none _
   | refine LeO.ite ?_ ?_
   | refine LeO.bind ?_ (fun _ => ?_)
  ·intro y0 y1 y2 y3 y4
   unfold modbus_Encode.j4
   repeat' first
   | (with_reducible exact ih0 _ _)
   | (with_reducible exact ih1 _ _)
   | (with_reducible exact ih2 _ _ _ _ _)
   | (with_reducible exact ih3 _ _ _ _ _)
   | (with_reducible exact ih4 _ _ _ _ _)
   | (with_reducible exact ih5 _ _ _ _ _ _ _ _ _ _ _)
   | (with_reducible exact ih6 _ _ _ _ _ _ _ _ _ _ _ _ _)
   | (with_reducible exact modbus_checkItem.mono _ _ _ _ _ _ _)
   | (with_reducible exact modbus_send.mono _ _ _ _ _ _)
   | (with_reducible exact LeO.refl _)
   | (with_reducible exact LeO.none _)
   | (with_reducible refine LeO.ite ?_ ?_)
   | (with_reducible refine LeO.bind ?_ (fun _ => ?_))
   | exact ih0 _ _
   | exact ih1 _ _
   | exact ih2 _ _ _ _ _
   | exact ih3 _ _ _ _ _
   | exact ih4 _ _ _ _ _
   | exact ih5 _ _ _ _ _ _ _ _ _ _ _
   | exact ih6 _ _ _ _ _ _ _ _ _ _ _ _ _
   | exact modbus_checkItem.mono _ _ _ _ _ _ _
   | exact modbus_send.mono _ _ _ _ _ _
   | exact LeO.none _
   | refine LeO.ite ?_ ?_
   | refine LeO.bind ?_ (fun _ => ?_)
  ·intro y0 y1 y2 y3 y4 y5 y6 y7 y8 y9 y10
   unfold modbus_Encode.j5
   repeat' first
   | (with_reducible exact ih0 _ _)
   | (with_reducible exact ih1 _ _)
   | (with_reducible exact ih2 _ _ _ _ _)
   | (with_reducible exact ih3 _ _ _ _ _)
   | (with_reducible exact ih4 _ _ _ _ _)
   | (with_reducible exact ih5 _ _ _ _ _ _ _ _ _ _ _)
   | (with_reducible exact ih6 _ _ _ _ _ _ _ _ _ _ _ _ _)
   | (with_reducible exact modbus_checkItem.mono _ _ _ _ _ _ _)
   | (with_reducible exact modbus_send.mono _ _ _ _ _ _)
   | (with_reducible exact LeO.refl _)
   | (with_reducible exact LeO.none _)
   | (with_reducible refine LeO.ite ?_ ?_)
   | (with_reducible refine LeO.bind ?_ (fun _ => ?_))
   | exact ih0 _ _
   | exact ih1 _ _
   | exact ih2 _ _ _ _ _
   | exact ih3 _ _ _ _ _
   | exact ih4 _ _ _ _ _
   | exact ih5 _ _ _ _ _ _ _ _ _ _ _
   | exact ih6 _ _ _ _ _ _ _ _ _ _ _ _ _
   | exact modbus_checkItem.mono _ _ _ _ _ _ _
   | exact modbus_send.mono _ _ _ _ _ _
   | exact LeO.none _
   | refine LeO.ite ?_ ?_
   | refine LeO.bind ?_ (fun _ => ?_)
  ·intro y0 y1 y2 y3 y4 y5 y6 y7 y8 y9 y10 y11 y12
   unfold modbus_Encode.l2
   repeat' first
   | (with_reducible exact ih0 _ _)
   | (with_reducible exact ih1 _ _)
   | (with_reducible exact ih2 _ _ _ _ _)
   | (with_reducible exact ih3 _ _ _ _ _)
   | (with_reducible exact ih4 _ _ _ _ _)
   | (with_reducible exact ih5 _ _ _ _ _ _ _ _ _ _ _)
   | (with_reducible exact ih6 _ _ _ _ _ _ _ _ _ _ _ _ _)
   | (with_reducible exact modbus_checkItem.mono _ _ _ _ _ _ _)
   | (with_reducible exact modbus_send.mono _ _ _ _ _ _)
   | (with_reducible exact LeO.refl _)
   | (with_reducible exact LeO.none _)
   | (with_reducible refine LeO.ite ?_ ?_)
   | (with_reducible refine LeO.bind ?_ (fun _ => ?_))
   | exact ih0 _ _
   | exact ih1 _ _
   | exact ih2 _ _ _ _ _
   | exact ih3 _ _ _ _ _
   | exact ih4 _ _ _ _ _
   | exact ih5 _ _ _ _ _ _ _ _ _ _ _
   | exact ih6 _ _ _ _ _ _ _ _ _ _ _ _ _
   | exact modbus_checkItem.mono _ _ _ _ _ _ _
   | exact modbus_send.mono _ _ _ _ _ _
   | exact LeO.none _
   | refine LeO.ite ?_ ?_
   | refine LeO.bind ?_ (fun _ => ?_)
theorem modbus_Encode.mono : ∀ a0 a1 k, LeO (modbus_Encode.f k a0 a1) (modbus_Encode.f (k + 1) a0 a1) := by
 intro a0 a1 k
 obtain ⟨ih0, ih1, ih2, ih3, ih4, ih5, ih6⟩ := modbus_Encode.mono_l k
 unfold modbus_Encode.f
 repeat' first
   | (with_reducible exact ih0 _ _)
   | (with_reducible exact ih1 _ _)
   | (with_reducible exact ih2 _ _ _ _ _)
   | (with_reducible exact ih3 _ _ _ _ _)
   | (with_reducible exact ih4 _ _ _ _ _)
   | (with_reducible exact ih5 _ _ _ _ _ _ _ _ _ _ _)
   | (with_reducible exact ih6 _ _ _ _ _ _ _ _ _ _ _ _ _)
   | (with_reducible exact modbus_checkItem.mono _ _ _ _ _ _ _)
   | (with_reducible exact modbus_send.mono _ _ _ _ _ _)
   | (with_reducible exact LeO.refl _)
   | (with_reducible exact LeO.none _)
   | (with_reducible refine LeO.ite ?_ ?_)
   | (with_reducible refine LeO.bind ?_ (fun _ => ?_))
   | exact ih0 _ _
   | exact ih1 _ _
   | exact ih2 _ _ _ _ _
   | exact ih3 _ _ _ _ _
   | exact ih4 _ _ _ _ _
   | exact ih5 _ _ _ _ _ _ _ _ _ _ _
   | exact ih6 _ _ _ _ _ _ _ _ _ _ _ _ _
   | exact modbus_checkItem.mono _ _ _ _ _ _ _
   | exact modbus_send.mono _ _ _ _ _ _
   | exact LeO.none _
   | refine LeO.ite ?_ ?_
   | refine LeO.bind ?_ (fun _ => ?_)
set_option maxHeartbeats 8000000 in
set_option maxRecDepth 100000 in
theorem modbus_Encode.calls (k : Nat) (a0_0 : Int) (A1 : Option Addr) (c1 : Nat) (l1 : List (S48)) (r1 : List (S48)) (r2 : Int) (w : World) (hT_ : TabOk w) (hr1 : Kd.C k48 w A1 l1.length l1) (hc1 : l1.length ≤ c1) (h : modbus_Encode.f k a0_0 l1 = some (r1, r2)) :
  Calls Tryd.prog 21 #[.agg #[.int .i64 a0_0], .slice A1 l1.length c1] w fun e w' => ∃ v0_ : Value, e = .returned (.tuple #[v0_, .int .i64 r2]) ∧ Kd.R k48 48 w' w.heap.size (fun _ => True) v0_ r1 ∧ Below w.heap.size w w' := by
 have hu23 := Tryd.underlying23; have hu48 := Tryd.underlying48; have HR1 := sA hr1; have HC1 := sA hc1; clear hr1 hc1; have HB := sA (Below.refl w.heap.size w); have H : ((modbus_Check.f a0_0).bind fun t208 => (if t208 = 0 then (modbus_Encode.j0 k l1 a0_0) else (some (([] : List (S48)), t208)))) = some (r1, r2) := h; clear h; replace H := Option.bind_eq_some_iff.mp H; obtain ⟨t208, A30, H⟩ := H; replace H : (if t208 = 0 then (modbus_Encode.j0 k l1 a0_0) else (some (([] : List (S48)), t208))) = some (r1, r2) := H; have A3 := sA A30; clear A30; have HC4 := sA H; clear H
 go_enter Tryd.func21, Tryd.ntmps21
 go_upto_if 19 with (first | ((with_reducible refine gate_dst (N := 2) rfl ?_); refine boxK 2 #[.int .i64 a0_0] 23 ?_; intro gb207 hg w5 hbox hb; have BK207 := sA hbox; have GW207 := bsz HB hg; have GE207 := bsz HB hg; replace HB := bst HB hb; clear hb hbox hg; obtain ⟨hcz6_0,hfz6_0⟩ := cQ1 BK207) | ((with_reducible refine gate_callee (f := 14) rfl ?_); refine goesK (some 17) Tryd.func14 #[.agg #[.int .i64 a0_0]] ?_; (with_reducible refine (modbus_Check.calls a0_0 t208 _ A3.out).mono ?_); rintro e w7 ⟨rfl, hb⟩; refine ⟨_, rfl, ?_⟩; replace BK207 := sA (blkb BK207.out hb); replace HB := bst HB hb; (try clear hb)))
 (try simp only [Act.put, List.setIfInBounds_toArray, List.set_cons_zero, List.set_cons_succ])
 go_cut [] (fun wc => ∃ (kq : Nat), Aside0 (modbus_Encode.j0 kq l1 a0_0 = some (r1, r2)) ∧ Aside0 (kq ≤ k) ∧ Aside0 (wc.heap[gb207]? = some (.cells #[.int .i64 a0_0] 23 (0, 0))) ∧ Aside0 (Below w.heap.size w wc))
 case first =>
  have H := HC4.out; clear HC4
  by_cases c8 : t208 = 0
  ·rw [if_pos c8] at H
   have c8b0 : (t208 == 0) = true := beq_iff_eq.mpr c8; have c8b1 : (t208 != 0) = false := bne_eq_false_iff_eq.mpr c8; clear c8
   (first | rw [c8b0] | (simp only [i64_w, i32_w]; rw [c8b0]) | skip)
   have H' := sA H; clear H
   go_wp2
   go_meet
   case rel => exact ⟨_, H', ⟨by first | omega | exact Nat.le_refl _⟩, ⟨bkw BK207.out⟩, ⟨hbw HB.out⟩⟩
  ·rw [if_neg c8] at H
   have c8b0 : (t208 == 0) = false := beq_eq_false_iff_ne.mpr c8; have c8b1 : (t208 != 0) = true := bne_iff_ne.mpr c8
   (first | rw [c8b0] | (simp only [i64_w, i32_w]; rw [c8b0]) | skip)
   simp only [Option.some.injEq, Prod.mk.injEq] at H
   obtain ⟨rfl, rfl⟩ := H
   go_wp2
   go_ret2
   exact ⟨_, eW_, by first | exact Kd.R_nil _ _ _ _ _ | exact Kd.N_nil _ _ _ _ _ | exact Kd.V_nil _ _ _ _ _ | exact Kd.Q_nil _ _ _ _ _ | exact Kd.S_nil _ _ _ _ _, hbw HB.out⟩
 case rest =>
  clear HC4
  try clear c1
  try clear hcz6_0
  try clear hfz6_0
  obtain ⟨kq, HA, HJ3, BK207, HB⟩ := hcut
  cases kq with
  | zero => exact absurd HA.out (by simp [modbus_Encode.j0])
  | succ kj3 =>
   have H := HA.out; clear HA
   simp only [modbus_Encode.j0] at H
   have HC9 := sA H; clear H
   go_upto_if 23 with (fail)
   go_cut [] (fun wc => ∃ (kq : Nat), Aside0 (modbus_Encode.j1 kq l1 a0_0 = some (r1, r2)) ∧ Aside0 (kq ≤ kj3) ∧ Aside0 (wc.heap[gb207]? = some (.cells #[.int .i64 a0_0] 23 (0, 0))) ∧ Aside0 (Below w.heap.size w wc))
   case first =>
    have H := HC9.out; clear HC9
    by_cases c10 : (l1.length : Int) > 1024
    ·rw [if_pos c10] at H
     have c10b0 : decide (1024 < (l1.length : Int)) = true := decide_eq_true c10; have c10b1 : decide (1024 < l1.length) = true := decide_eq_true (by omega); clear c10
     (first | rw [c10b0] | (simp only [i64_w, i32_w]; rw [c10b0]) | skip)
     simp only [Option.some.injEq, Prod.mk.injEq] at H
     obtain ⟨rfl, rfl⟩ := H
     go_wp2
     go_ret2
     exact ⟨_, eW_, by first | exact Kd.R_nil _ _ _ _ _ | exact Kd.N_nil _ _ _ _ _ | exact Kd.V_nil _ _ _ _ _ | exact Kd.Q_nil _ _ _ _ _ | exact Kd.S_nil _ _ _ _ _, hbw HB.out⟩
    ·rw [if_neg c10] at H
     have c10b0 : decide (1024 < (l1.length : Int)) = false := decide_eq_false c10; have c10b1 : decide (1024 < l1.length) = false := decide_eq_false (by omega); clear c10
     (first | rw [c10b0] | (simp only [i64_w, i32_w]; rw [c10b0]) | skip)
     have H' := sA H; clear H
     go_wp2
     go_meet
     case rel => exact ⟨_, H', ⟨by have := HJ3.out; first | omega | exact Nat.le_refl _⟩, ⟨bkw BK207.out⟩, ⟨hbw HB.out⟩⟩
   case rest =>
    clear HC9
    try clear c1
    try clear hcz6_0
    try clear hfz6_0
    obtain ⟨kq, HA, HJ8, BK207, HB⟩ := hcut
    cases kq with
    | zero => exact absurd HA.out (by simp [modbus_Encode.j1])
    | succ kj8 =>
     have H := HA.out; clear HA
     simp only [modbus_Encode.j1] at H
     have H' := sA H; clear H
     go_wp2
     go_loopg [26] kj8 (fun kq v26 w' => ∃ (x26_3 : Int), v26 = .int .i64 x26_3 ∧ Aside0 (modbus_Encode.l0 kq l1 l1 (l1.length : Int) x26_3 a0_0 = some (r1, r2)) ∧ Aside0 (kq ≤ kj8) ∧ Aside0 (w'.heap[gb207]? = some (.cells #[.int .i64 a0_0] 23 (0, 0))) ∧ Aside0 (Below w.heap.size w w'))
     case atStart => exact ⟨(0), (by first | rfl | (simp; done) | (simp [*]; done)), H', ⟨Nat.le_refl _⟩, ⟨bkw BK207.out⟩, ⟨hbw HB.out⟩⟩
     case round =>
      clear H'
      try clear c1
      try clear hcz6_0
      try clear hfz6_0
      obtain ⟨x26_3, rfl, HA, HK3, BK207, HB⟩ := hrel
      cases gk with
      | zero => exact absurd HA.out (by simp [modbus_Encode.l0])
      | succ k3 =>
       have H := HA.out; clear HA
       simp only [modbus_Encode.l0] at H
       by_cases c11 : x26_3 < (l1.length : Int)
       ·rw [if_pos c11] at H
        have c11b0 : decide (x26_3 < (l1.length : Int)) = true := decide_eq_true c11; clear c11
        by_cases c12 : 0 ≤ x26_3
        ·rw [if_pos c12] at H
         have c12b0 : decide (0 ≤ x26_3) = true := decide_eq_true c12; clear c12
         by_cases c13 : x26_3 < (l1.length : Int)
         ·rw [if_pos c13] at H
          have c13b0 : decide (x26_3 < (l1.length : Int)) = true := decide_eq_true c13; clear c13; replace H := Option.bind_eq_some_iff.mp H; obtain ⟨t211, A140, H⟩ := H; replace H : (if t211 = 0 then (modbus_Encode.l0 k3 l1 l1 (l1.length : Int) (wrap64 (x26_3 + 1)) a0_0) else (some (([] : List (S48)), t211))) = some (r1, r2) := H; have A14 := sA A140; clear A140
          by_cases c15 : t211 = 0
          ·rw [if_pos c15] at H
           have c15b0 : (t211 == 0) = true := beq_iff_eq.mpr c15; have c15b1 : (t211 != 0) = false := bne_eq_false_iff_eq.mpr c15; clear c15; have H' := sA H; clear H; have p209 : 0 ≤ (x26_3 : Int) := of_decide_eq_true (by first | (with_reducible assumption) | assumption); have q209 : x26_3 < (l1.length : Int) := of_decide_eq_true (by first | (with_reducible assumption) | assumption); obtain ⟨ad209, e209, hx209_0, hx209_1, hx209_2, hx209_3, hx209_4⟩ := at_T48 HR1.out x26_3 p209 q209
           cases e209
           replace hx209_0 := hbc HB hx209_0; replace hx209_1 := hbc HB hx209_1; replace hx209_2 := hbc HB hx209_2; replace hx209_3 := hbc HB hx209_3; replace hx209_4 := hbc HB hx209_4; replace p209 := eq_true p209; replace q209 := eq_true q209
           go_wp2_with (first | ((with_reducible refine gate_dst (N := 8) rfl ?_); refine boxK 8 #[.int .i64 0, .int .i64 0, .int .i64 0, .string (⟨#[]⟩ : ByteArray), .int .i64 0] 48 ?_; intro gb210 hg w16 hbox hb; have BK210 := sA hbox; have GW210 := bsz HB hg; have GE210 := bsz HB hg; have NB207_210 := bnl BK207 hg; have NB210_207 := bng BK207 hg; replace BK207 := sA (blkb BK207.out hb); replace HB := bst HB hb; clear hb hbox hg; have hnb17 := NB210_207.out; have hnc17 := NB207_210.out; obtain ⟨_,_,_,_,_,_,_,_,_,_⟩ := cQ5 BK210; obtain ⟨_,_⟩ := cQ1 BK207) | ((with_reducible refine gate_callee (f := 30) rfl ?_); refine goesK (some 32) Tryd.func30 #[.agg #[.int .i64 a0_0], .agg #[.int .i64 ((rd_T48 l1 x26_3).f0), .int .i64 ((rd_T48 l1 x26_3).f1), .int .i64 ((rd_T48 l1 x26_3).f2), .string ((rd_T48 l1 x26_3).f3), .int .i64 ((rd_T48 l1 x26_3).f4)]] ?_; (with_reducible refine (modbus_checkItem.calls k3 a0_0 ((rd_T48 l1 x26_3).f0) ((rd_T48 l1 x26_3).f1) ((rd_T48 l1 x26_3).f2) ((rd_T48 l1 x26_3).f3) ((rd_T48 l1 x26_3).f4) t211 _ A14.out).mono ?_); rintro e w20 ⟨rfl, hb⟩; refine ⟨_, rfl, ?_⟩; replace BK207 := sA (blk_below (g := gb207) (o := .cells #[.int .i64 a0_0] 23 (0, 0)) (by (repeat (with_reducible first | refine blk_far ?_ NB207_210.out _ | refine blk_drewN ?_ _ | refine blk_drew ?_ | refine blk_alloc ?_ _)); exact BK207.out) hb); replace BK210 := sA (blk_below (g := gb210) (o := .cells #[.int .i64 ((rd_T48 l1 x26_3).f0), .int .i64 ((rd_T48 l1 x26_3).f1), .int .i64 ((rd_T48 l1 x26_3).f2), .string ((rd_T48 l1 x26_3).f3), .int .i64 ((rd_T48 l1 x26_3).f4)] 48 (0, 0)) (by (with_reducible repeat (first | refine blk_drewN ?_ _ | refine blk_drew ?_ | refine blk_alloc ?_ _)); refine blk_put (cs := #[.int .i64 ((rd_T48 l1 x26_3).f0), .int .i64 ((rd_T48 l1 x26_3).f1), .int .i64 ((rd_T48 l1 x26_3).f2), .string ((rd_T48 l1 x26_3).f3), .int .i64 0]) ?_ 4 _ rfl; (with_reducible repeat (first | refine blk_drewN ?_ _ | refine blk_drew ?_ | refine blk_alloc ?_ _)); refine blk_put (cs := #[.int .i64 ((rd_T48 l1 x26_3).f0), .int .i64 ((rd_T48 l1 x26_3).f1), .int .i64 ((rd_T48 l1 x26_3).f2), .string (⟨#[]⟩ : ByteArray), .int .i64 0]) ?_ 3 _ rfl; (with_reducible repeat (first | refine blk_drewN ?_ _ | refine blk_drew ?_ | refine blk_alloc ?_ _)); refine blk_put (cs := #[.int .i64 ((rd_T48 l1 x26_3).f0), .int .i64 ((rd_T48 l1 x26_3).f1), .int .i64 0, .string (⟨#[]⟩ : ByteArray), .int .i64 0]) ?_ 2 _ rfl; (with_reducible repeat (first | refine blk_drewN ?_ _ | refine blk_drew ?_ | refine blk_alloc ?_ _)); refine blk_put (cs := #[.int .i64 ((rd_T48 l1 x26_3).f0), .int .i64 0, .int .i64 0, .string (⟨#[]⟩ : ByteArray), .int .i64 0]) ?_ 1 _ rfl; (with_reducible repeat (first | refine blk_drewN ?_ _ | refine blk_drew ?_ | refine blk_alloc ?_ _)); refine blk_put (cs := #[.int .i64 0, .int .i64 0, .int .i64 0, .string (⟨#[]⟩ : ByteArray), .int .i64 0]) ?_ 0 _ rfl; (with_reducible repeat (first | refine blk_drewN ?_ _ | refine blk_drew ?_ | refine blk_alloc ?_ _)); exact BK210.out) hb); replace HB := bst HB hb; (try clear hb)))
           go_roundg k3
           case measure => have := HJ3.out; have := HJ8.out; have := HK3.out; omega
           case rel => exact ⟨(wrap64 (x26_3 + 1)), (by first | rfl | (simp; done) | (simp [*]; done)), H', ⟨by have := HJ3.out; have := HJ8.out; have := HK3.out; omega⟩, ⟨bkw BK207.out⟩, ⟨hbw HB.out⟩⟩
          ·rw [if_neg c15] at H
           have c15b0 : (t211 == 0) = false := beq_eq_false_iff_ne.mpr c15; have c15b1 : (t211 != 0) = true := bne_iff_ne.mpr c15
           simp only [Option.some.injEq, Prod.mk.injEq] at H
           obtain ⟨rfl, rfl⟩ := H; have p209 : 0 ≤ (x26_3 : Int) := of_decide_eq_true (by first | (with_reducible assumption) | assumption); have q209 : x26_3 < (l1.length : Int) := of_decide_eq_true (by first | (with_reducible assumption) | assumption); obtain ⟨ad209, e209, hx209_0, hx209_1, hx209_2, hx209_3, hx209_4⟩ := at_T48 HR1.out x26_3 p209 q209
           cases e209
           replace hx209_0 := hbc HB hx209_0; replace hx209_1 := hbc HB hx209_1; replace hx209_2 := hbc HB hx209_2; replace hx209_3 := hbc HB hx209_3; replace hx209_4 := hbc HB hx209_4; replace p209 := eq_true p209; replace q209 := eq_true q209
           go_wp2_with (first | ((with_reducible refine gate_dst (N := 8) rfl ?_); refine boxK 8 #[.int .i64 0, .int .i64 0, .int .i64 0, .string (⟨#[]⟩ : ByteArray), .int .i64 0] 48 ?_; intro gb210 hg w21 hbox hb; have BK210 := sA hbox; have GW210 := bsz HB hg; have GE210 := bsz HB hg; have NB207_210 := bnl BK207 hg; have NB210_207 := bng BK207 hg; replace BK207 := sA (blkb BK207.out hb); replace HB := bst HB hb; clear hb hbox hg; have hnb22 := NB210_207.out; have hnc22 := NB207_210.out; obtain ⟨_,_,_,_,_,_,_,_,_,_⟩ := cQ5 BK210; obtain ⟨_,_⟩ := cQ1 BK207) | ((with_reducible refine gate_callee (f := 30) rfl ?_); refine goesK (some 32) Tryd.func30 #[.agg #[.int .i64 a0_0], .agg #[.int .i64 ((rd_T48 l1 x26_3).f0), .int .i64 ((rd_T48 l1 x26_3).f1), .int .i64 ((rd_T48 l1 x26_3).f2), .string ((rd_T48 l1 x26_3).f3), .int .i64 ((rd_T48 l1 x26_3).f4)]] ?_; (with_reducible refine (modbus_checkItem.calls k3 a0_0 ((rd_T48 l1 x26_3).f0) ((rd_T48 l1 x26_3).f1) ((rd_T48 l1 x26_3).f2) ((rd_T48 l1 x26_3).f3) ((rd_T48 l1 x26_3).f4) t211 _ A14.out).mono ?_); rintro e w25 ⟨rfl, hb⟩; refine ⟨_, rfl, ?_⟩; replace BK207 := sA (blk_below (g := gb207) (o := .cells #[.int .i64 a0_0] 23 (0, 0)) (by (repeat (with_reducible first | refine blk_far ?_ NB207_210.out _ | refine blk_drewN ?_ _ | refine blk_drew ?_ | refine blk_alloc ?_ _)); exact BK207.out) hb); replace BK210 := sA (blk_below (g := gb210) (o := .cells #[.int .i64 ((rd_T48 l1 x26_3).f0), .int .i64 ((rd_T48 l1 x26_3).f1), .int .i64 ((rd_T48 l1 x26_3).f2), .string ((rd_T48 l1 x26_3).f3), .int .i64 ((rd_T48 l1 x26_3).f4)] 48 (0, 0)) (by (with_reducible repeat (first | refine blk_drewN ?_ _ | refine blk_drew ?_ | refine blk_alloc ?_ _)); refine blk_put (cs := #[.int .i64 ((rd_T48 l1 x26_3).f0), .int .i64 ((rd_T48 l1 x26_3).f1), .int .i64 ((rd_T48 l1 x26_3).f2), .string ((rd_T48 l1 x26_3).f3), .int .i64 0]) ?_ 4 _ rfl; (with_reducible repeat (first | refine blk_drewN ?_ _ | refine blk_drew ?_ | refine blk_alloc ?_ _)); refine blk_put (cs := #[.int .i64 ((rd_T48 l1 x26_3).f0), .int .i64 ((rd_T48 l1 x26_3).f1), .int .i64 ((rd_T48 l1 x26_3).f2), .string (⟨#[]⟩ : ByteArray), .int .i64 0]) ?_ 3 _ rfl; (with_reducible repeat (first | refine blk_drewN ?_ _ | refine blk_drew ?_ | refine blk_alloc ?_ _)); refine blk_put (cs := #[.int .i64 ((rd_T48 l1 x26_3).f0), .int .i64 ((rd_T48 l1 x26_3).f1), .int .i64 0, .string (⟨#[]⟩ : ByteArray), .int .i64 0]) ?_ 2 _ rfl; (with_reducible repeat (first | refine blk_drewN ?_ _ | refine blk_drew ?_ | refine blk_alloc ?_ _)); refine blk_put (cs := #[.int .i64 ((rd_T48 l1 x26_3).f0), .int .i64 0, .int .i64 0, .string (⟨#[]⟩ : ByteArray), .int .i64 0]) ?_ 1 _ rfl; (with_reducible repeat (first | refine blk_drewN ?_ _ | refine blk_drew ?_ | refine blk_alloc ?_ _)); refine blk_put (cs := #[.int .i64 0, .int .i64 0, .int .i64 0, .string (⟨#[]⟩ : ByteArray), .int .i64 0]) ?_ 0 _ rfl; (with_reducible repeat (first | refine blk_drewN ?_ _ | refine blk_drew ?_ | refine blk_alloc ?_ _)); exact BK210.out) hb); replace HB := bst HB hb; (try clear hb)))
           go_ret2
           exact ⟨_, eW_, by first | exact Kd.R_nil _ _ _ _ _ | exact Kd.N_nil _ _ _ _ _ | exact Kd.V_nil _ _ _ _ _ | exact Kd.Q_nil _ _ _ _ _ | exact Kd.S_nil _ _ _ _ _, hbw HB.out⟩
         ·rw [if_neg c13] at H
          exact absurd H (by simp)
        ·rw [if_neg c12] at H
         exact absurd H (by simp)
       ·rw [if_neg c11] at H
        have c11b0 : decide (x26_3 < (l1.length : Int)) = false := decide_eq_false c11; clear c11; have H' := sA H; clear H
        go_wp2
        go_loopg [10, 39] k3 (fun kq v10 v39 w' => ∃ (x10_4 : List (S48)) (x39_4 : Int), v39 = .int .i64 x39_4 ∧ Aside0 (modbus_Encode.l1 kq x10_4 l1 (l1.length : Int) x39_4 a0_0 = some (r1, r2)) ∧ Aside0 (kq ≤ k3) ∧ Aside0 (Kd.R k48 48 w' w.heap.size (fun _ => True) v10 x10_4) ∧ Aside0 (w'.heap[gb207]? = some (.cells #[.int .i64 a0_0] 23 (0, 0))) ∧ Aside0 (Below w.heap.size w w'))
        case atStart => exact ⟨(([] : List (S48))), (0), (by first | rfl | (simp; done) | (simp [*]; done)), H', ⟨Nat.le_refl _⟩, ⟨by first | exact Kd.R_nil _ _ _ _ _ | exact Kd.N_nil _ _ _ _ _ | exact Kd.V_nil _ _ _ _ _ | exact Kd.Q_nil _ _ _ _ _ | exact Kd.S_nil _ _ _ _ _⟩, ⟨bkw BK207.out⟩, ⟨hbw HB.out⟩⟩
        case round =>
         clear H'
         try clear c1
         try clear c11
         try clear c11b0
         try clear c12
         try clear hcz6_0
         try clear hfz6_0
         obtain ⟨x10_4, x39_4, rfl, HA, HK4, HO_10, BK207, HB⟩ := hrel
         cases gk with
         | zero => exact absurd HA.out (by simp [modbus_Encode.l1])
         | succ k4 =>
          have H := HA.out; clear HA
          simp only [modbus_Encode.l1] at H
          have HC26 := sA H; clear H
          go_upto_if 40 with (fail)
          go_cut [] (fun wc => ∃ (kq : Nat), Aside0 (modbus_Encode.j4 kq x10_4 l1 (l1.length : Int) x39_4 a0_0 = some (r1, r2)) ∧ Aside0 (kq ≤ k4) ∧ Aside0 (Kd.R k48 48 wc w.heap.size (fun _ => True) u10 x10_4) ∧ Aside0 (wc.heap[gb207]? = some (.cells #[.int .i64 a0_0] 23 (0, 0))) ∧ Aside0 (Below w.heap.size w wc))
          case first =>
           have H := HC26.out; clear HC26
           by_cases c27 : x39_4 < (l1.length : Int)
           ·rw [if_pos c27] at H
            have c27b0 : decide (x39_4 < (l1.length : Int)) = true := decide_eq_true c27; clear c27
            (first | rw [c27b0] | (simp only [i64_w, i32_w]; rw [c27b0]) | skip)
            have H' := sA H; clear H
            go_wp2
            go_meet
            case rel => exact ⟨_, H', ⟨by have := HJ3.out; have := HJ8.out; have := HK3.out; have := HK4.out; first | omega | exact Nat.le_refl _⟩, ⟨by (with_reducible repeat (first | apply Kd.R_alloc | apply Kd.R_drewN | apply Kd.R_drew)); exact HO_10.out⟩, ⟨bkw BK207.out⟩, ⟨hbw HB.out⟩⟩
           ·rw [if_neg c27] at H
            have c27b0 : decide (x39_4 < (l1.length : Int)) = false := decide_eq_false c27; clear c27
            (first | rw [c27b0] | (simp only [i64_w, i32_w]; rw [c27b0]) | skip)
            simp only [Option.some.injEq, Prod.mk.injEq] at H
            obtain ⟨rfl, rfl⟩ := H
            go_wp2
            go_ret2
            exact ⟨_, eW_, by (with_reducible repeat (first | apply Kd.R_alloc | apply Kd.R_drewN | apply Kd.R_drew)); exact HO_10.out, hbw HB.out⟩
          case rest =>
           clear HC26
           try clear c1
           try clear c11
           try clear c11b0
           try clear c12
           try clear hcz6_0
           try clear hfz6_0
           obtain ⟨kq, HA, HJ25, HO_10, BK207, HB⟩ := hcut
           cases kq with
           | zero => exact absurd HA.out (by simp [modbus_Encode.j4])
           | succ kj25 =>
            have H := HA.out; clear HA
            simp only [modbus_Encode.j4] at H
            by_cases c28 : 0 ≤ x39_4
            ·rw [if_pos c28] at H
             have c28b0 : decide (0 ≤ x39_4) = true := decide_eq_true c28; clear c28
             by_cases c29 : x39_4 < (l1.length : Int)
             ·rw [if_pos c29] at H
              have c29b0 : decide (x39_4 < (l1.length : Int)) = true := decide_eq_true c29; clear c29; replace H := Option.bind_eq_some_iff.mp H; obtain ⟨t214, A300, H⟩ := H; replace H : (if (wrap64 ((x10_4.length : Int) + (t214.size : Int))) > 262144 then (some (([] : List (S48)), 6)) else (modbus_Encode.j5 kj25 x10_4 t214 l1 (l1.length : Int) x39_4 a0_0 ((rd_T48 l1 x39_4).f0) ((rd_T48 l1 x39_4).f1) ((rd_T48 l1 x39_4).f2) ((rd_T48 l1 x39_4).f3) ((rd_T48 l1 x39_4).f4))) = some (r1, r2) := H; have A30 := sA A300; clear A300; have HC31 := sA H; clear H; have p212 : 0 ≤ (x39_4 : Int) := of_decide_eq_true (by first | (with_reducible assumption) | assumption); have q212 : x39_4 < (l1.length : Int) := of_decide_eq_true (by first | (with_reducible assumption) | assumption); obtain ⟨ad212, e212, hx212_0, hx212_1, hx212_2, hx212_3, hx212_4⟩ := at_T48 HR1.out x39_4 p212 q212
              cases e212
              replace hx212_0 := hbc HB hx212_0; replace hx212_1 := hbc HB hx212_1; replace hx212_2 := hbc HB hx212_2; replace hx212_3 := hbc HB hx212_3; replace hx212_4 := hbc HB hx212_4; replace p212 := eq_true p212; replace q212 := eq_true q212
              go_upto_if 50 with (first | ((with_reducible refine gate_dst (N := 12) rfl ?_); refine boxK 12 #[.int .i64 0, .int .i64 0, .int .i64 0, .string (⟨#[]⟩ : ByteArray), .int .i64 0] 48 ?_; intro gb213 hg w32 hbox hb; have BK213 := sA hbox; have GW213 := bsz HB hg; have GE213 := bsz HB hg; have NB207_213 := bnl BK207 hg; have NB213_207 := bng BK207 hg; replace HO_10 := sA (Kd.R_below (Kd.R_elderB (rkw HO_10.out) gb213 (Nat.le_of_eq hg.symm)) hb); replace BK207 := sA (blkb BK207.out hb); replace HB := bst HB hb; clear hb hbox hg; have hnb33 := NB213_207.out; have hnc33 := NB207_213.out; obtain ⟨hcz34_0,hcz34_1,hcz34_2,hcz34_3,hcz34_4,hfz34_0,hfz34_1,hfz34_2,hfz34_3,hfz34_4⟩ := cQ5 BK213) | ((with_reducible refine gate_callee (f := 31) rfl ?_); refine goesK (some 44) Tryd.func31 #[.agg #[.int .i64 ((rd_T48 l1 x39_4).f0), .int .i64 ((rd_T48 l1 x39_4).f1), .int .i64 ((rd_T48 l1 x39_4).f2), .string ((rd_T48 l1 x39_4).f3), .int .i64 ((rd_T48 l1 x39_4).f4)]] ?_; (with_reducible refine (modbus_send.calls kj25 ((rd_T48 l1 x39_4).f0) ((rd_T48 l1 x39_4).f1) ((rd_T48 l1 x39_4).f2) ((rd_T48 l1 x39_4).f3) ((rd_T48 l1 x39_4).f4) t214 _ ?side1 A30.out).mono ?_); (case side1 => refine TabOk.below hT_ ?_; repeat (first | (with_reducible first | exact HB.out | apply below_alloc | apply pw_below_drewN | apply below_drew1 | refine below_set ?_ GE207.out | refine below_set ?_ GE213.out) | exact HB.out)); rintro e w35 ⟨rfl, hb⟩; refine ⟨_, rfl, ?_⟩; replace HO_10 := sA (Kd.R_below (by (with_reducible repeat (first | apply Kd.R_alloc | apply Kd.R_drewN | apply Kd.R_drew)); exact (Kd.R_mono (Kd.R_far (p := ⟨gb213, 4, none⟩) (Kd.R_far (p := ⟨gb213, 3, none⟩) (Kd.R_far (p := ⟨gb213, 2, none⟩) (Kd.R_far (p := ⟨gb213, 1, none⟩) (Kd.R_far (p := ⟨gb213, 0, none⟩) (Kd.R_mono HO_10.out (fun k_ hk => (⟨hk, hk.2⟩ : _ ∧ k_ ≠ gb213))) (fun _ hk => hk.2) (.int .i64 ((rd_T48 l1 x39_4).f0))) (fun _ hk => hk.2) (.int .i64 ((rd_T48 l1 x39_4).f1))) (fun _ hk => hk.2) (.int .i64 ((rd_T48 l1 x39_4).f2))) (fun _ hk => hk.2) (.string ((rd_T48 l1 x39_4).f3))) (fun _ hk => hk.2) (.int .i64 ((rd_T48 l1 x39_4).f4))) (fun _ h_ => h_.1))) hb); replace BK207 := sA (blk_below (g := gb207) (o := .cells #[.int .i64 a0_0] 23 (0, 0)) (by (repeat (with_reducible first | refine blk_far ?_ NB207_213.out _ | refine blk_drewN ?_ _ | refine blk_drew ?_ | refine blk_alloc ?_ _)); exact BK207.out) hb); replace BK213 := sA (blk_below (g := gb213) (o := .cells #[.int .i64 ((rd_T48 l1 x39_4).f0), .int .i64 ((rd_T48 l1 x39_4).f1), .int .i64 ((rd_T48 l1 x39_4).f2), .string ((rd_T48 l1 x39_4).f3), .int .i64 ((rd_T48 l1 x39_4).f4)] 48 (0, 0)) (by (with_reducible repeat (first | refine blk_drewN ?_ _ | refine blk_drew ?_ | refine blk_alloc ?_ _)); refine blk_put (cs := #[.int .i64 ((rd_T48 l1 x39_4).f0), .int .i64 ((rd_T48 l1 x39_4).f1), .int .i64 ((rd_T48 l1 x39_4).f2), .string ((rd_T48 l1 x39_4).f3), .int .i64 0]) ?_ 4 _ rfl; (with_reducible repeat (first | refine blk_drewN ?_ _ | refine blk_drew ?_ | refine blk_alloc ?_ _)); refine blk_put (cs := #[.int .i64 ((rd_T48 l1 x39_4).f0), .int .i64 ((rd_T48 l1 x39_4).f1), .int .i64 ((rd_T48 l1 x39_4).f2), .string (⟨#[]⟩ : ByteArray), .int .i64 0]) ?_ 3 _ rfl; (with_reducible repeat (first | refine blk_drewN ?_ _ | refine blk_drew ?_ | refine blk_alloc ?_ _)); refine blk_put (cs := #[.int .i64 ((rd_T48 l1 x39_4).f0), .int .i64 ((rd_T48 l1 x39_4).f1), .int .i64 0, .string (⟨#[]⟩ : ByteArray), .int .i64 0]) ?_ 2 _ rfl; (with_reducible repeat (first | refine blk_drewN ?_ _ | refine blk_drew ?_ | refine blk_alloc ?_ _)); refine blk_put (cs := #[.int .i64 ((rd_T48 l1 x39_4).f0), .int .i64 0, .int .i64 0, .string (⟨#[]⟩ : ByteArray), .int .i64 0]) ?_ 1 _ rfl; (with_reducible repeat (first | refine blk_drewN ?_ _ | refine blk_drew ?_ | refine blk_alloc ?_ _)); refine blk_put (cs := #[.int .i64 0, .int .i64 0, .int .i64 0, .string (⟨#[]⟩ : ByteArray), .int .i64 0]) ?_ 0 _ rfl; (with_reducible repeat (first | refine blk_drewN ?_ _ | refine blk_drew ?_ | refine blk_alloc ?_ _)); exact BK213.out) hb); replace HB := bst HB hb; (try clear hb); (try clear hk); obtain ⟨Ao36, co36, eo36⟩ := Kd.R_slice HO_10.out; subst eo36))
              (try simp only [Act.put, List.setIfInBounds_toArray, List.set_cons_zero, List.set_cons_succ])
              go_cut [] (fun wc => ∃ (kq : Nat), Aside0 (modbus_Encode.j5 kq x10_4 t214 l1 (l1.length : Int) x39_4 a0_0 ((rd_T48 l1 x39_4).f0) ((rd_T48 l1 x39_4).f1) ((rd_T48 l1 x39_4).f2) ((rd_T48 l1 x39_4).f3) ((rd_T48 l1 x39_4).f4) = some (r1, r2)) ∧ Aside0 (kq ≤ kj25) ∧ Aside0 (Kd.R k48 48 wc w.heap.size (fun k_ => k_ ≠ gb213) (.slice Ao36 x10_4.length co36) x10_4) ∧ Aside0 (wc.heap[gb207]? = some (.cells #[.int .i64 a0_0] 23 (0, 0))) ∧ Aside0 (wc.heap[gb213]? = some (.cells #[.int .i64 ((rd_T48 l1 x39_4).f0), .int .i64 ((rd_T48 l1 x39_4).f1), .int .i64 ((rd_T48 l1 x39_4).f2), .string ((rd_T48 l1 x39_4).f3), .int .i64 ((rd_T48 l1 x39_4).f4)] 48 (0, 0))) ∧ Aside0 (Below w.heap.size w wc))
              case first =>
               have H := HC31.out; clear HC31
               by_cases c37 : (wrap64 ((x10_4.length : Int) + (t214.size : Int))) > 262144
               ·rw [if_pos c37] at H
                have c37b0 : decide (262144 < (wrap64 ((x10_4.length : Int) + (t214.size : Int)))) = true := decide_eq_true c37; clear c37
                (first | rw [c37b0] | (simp only [i64_w, i32_w]; rw [c37b0]) | skip)
                simp only [Option.some.injEq, Prod.mk.injEq] at H
                obtain ⟨rfl, rfl⟩ := H
                go_wp2
                go_ret2
                exact ⟨_, eW_, by first | exact Kd.R_nil _ _ _ _ _ | exact Kd.N_nil _ _ _ _ _ | exact Kd.V_nil _ _ _ _ _ | exact Kd.Q_nil _ _ _ _ _ | exact Kd.S_nil _ _ _ _ _, hbw HB.out⟩
               ·rw [if_neg c37] at H
                have c37b0 : decide (262144 < (wrap64 ((x10_4.length : Int) + (t214.size : Int)))) = false := decide_eq_false c37; clear c37
                (first | rw [c37b0] | (simp only [i64_w, i32_w]; rw [c37b0]) | skip)
                have H' := sA H; clear H
                go_wp2
                go_meet
                case rel => exact ⟨_, H', ⟨by have := HJ3.out; have := HJ8.out; have := HK3.out; have := HK4.out; have := HJ25.out; first | omega | exact Nat.le_refl _⟩, ⟨by (with_reducible repeat (first | apply Kd.R_alloc | apply Kd.R_drewN | apply Kd.R_drew)); exact Kd.R_mono HO_10.out (fun _ hk => hk.2)⟩, ⟨bkw BK207.out⟩, ⟨bkw BK213.out⟩, ⟨hbw HB.out⟩⟩
              case rest =>
               clear HC31
               try clear c1
               try clear c11
               try clear c11b0
               try clear c12
               try clear c28
               try clear c28b0
               try clear c29
               try clear c29b0
               try clear hcz34_0
               try clear hcz34_1
               try clear hcz34_2
               try clear hcz34_3
               try clear hcz34_4
               try clear hcz6_0
               try clear hfz34_0
               try clear hfz34_1
               try clear hfz34_2
               try clear hfz34_3
               try clear hfz34_4
               try clear hfz6_0
               try clear hx212_0
               try clear hx212_1
               try clear hx212_2
               try clear hx212_3
               try clear hx212_4
               try clear p212
               try clear q212
               obtain ⟨kq, HA, HJ30, HO_10, BK207, BK213, HB⟩ := hcut
               cases kq with
               | zero => exact absurd HA.out (by simp [modbus_Encode.j5])
               | succ kj30 =>
                have H := HA.out; clear HA
                simp only [modbus_Encode.j5] at H
                have H' := sA H; clear H
                go_wp2
                go_loopg [10, 53] kj30 (fun kq v10 v53 w' => ∃ (x10_7 : List (S48)) (x53_7 : Int), v53 = .int .i64 x53_7 ∧ Aside0 (modbus_Encode.l2 kq x10_7 t214 l1 (l1.length : Int) x39_4 (t214.size : Int) x53_7 a0_0 ((rd_T48 l1 x39_4).f0) ((rd_T48 l1 x39_4).f1) ((rd_T48 l1 x39_4).f2) ((rd_T48 l1 x39_4).f3) ((rd_T48 l1 x39_4).f4) = some (r1, r2)) ∧ Aside0 (kq ≤ kj30) ∧ Aside0 (Kd.R k48 48 w' w.heap.size (fun k_ => k_ ≠ gb213) v10 x10_7) ∧ Aside0 (w'.heap[gb207]? = some (.cells #[.int .i64 a0_0] 23 (0, 0))) ∧ Aside0 (w'.heap[gb213]? = some (.cells #[.int .i64 ((rd_T48 l1 x39_4).f0), .int .i64 ((rd_T48 l1 x39_4).f1), .int .i64 ((rd_T48 l1 x39_4).f2), .string ((rd_T48 l1 x39_4).f3), .int .i64 ((rd_T48 l1 x39_4).f4)] 48 (0, 0))) ∧ Aside0 (Below w.heap.size w w'))
                case atStart => exact ⟨(x10_4), (0), (by first | rfl | (simp; done) | (simp [*]; done)), H', ⟨Nat.le_refl _⟩, ⟨by (with_reducible repeat (first | apply Kd.R_alloc | apply Kd.R_drewN | apply Kd.R_drew)); exact HO_10.out⟩, ⟨bkw BK207.out⟩, ⟨bkw BK213.out⟩, ⟨hbw HB.out⟩⟩
                case round =>
                 clear H'
                 try clear c1
                 try clear c11
                 try clear c11b0
                 try clear c12
                 try clear c28
                 try clear c28b0
                 try clear c29
                 try clear c29b0
                 try clear hcz34_0
                 try clear hcz34_1
                 try clear hcz34_2
                 try clear hcz34_3
                 try clear hcz34_4
                 try clear hcz6_0
                 try clear hfz34_0
                 try clear hfz34_1
                 try clear hfz34_2
                 try clear hfz34_3
                 try clear hfz34_4
                 try clear hfz6_0
                 try clear hx212_0
                 try clear hx212_1
                 try clear hx212_2
                 try clear hx212_3
                 try clear hx212_4
                 try clear p212
                 try clear q212
                 obtain ⟨x10_7, x53_7, rfl, HA, HK7, HO_10, BK207, BK213, HB⟩ := hrel
                 cases gk with
                 | zero => exact absurd HA.out (by simp [modbus_Encode.l2])
                 | succ k7 =>
                  have H := HA.out; clear HA
                  simp only [modbus_Encode.l2] at H
                  by_cases c38 : x53_7 < (t214.size : Int)
                  ·rw [if_pos c38] at H
                   have c38b0 : decide (x53_7 < (t214.size : Int)) = true := decide_eq_true c38; clear c38
                   by_cases c39 : 0 ≤ x53_7
                   ·rw [if_pos c39] at H
                    have c39b0 : decide (0 ≤ x53_7) = true := decide_eq_true c39; clear c39
                    by_cases c40 : x53_7 < (t214.size : Int)
                    ·rw [if_pos c40] at H
                     have c40b0 : decide (x53_7 < (t214.size : Int)) = true := decide_eq_true c40; clear c40
                     by_cases c42 : x53_7 = 0
                     ·rw [if_pos c42] at H
                      have c42b0 : (x53_7 == 0) = true := beq_iff_eq.mpr c42; have c42b1 : (x53_7 != 0) = false := bne_eq_false_iff_eq.mpr c42; clear c42
                      by_cases c43 : x10_7.length < 2932031007402
                      ·rw [if_pos c43] at H
                       have LMc43 := sA c43; clear c43; obtain ⟨y216, hy216⟩ : ∃ y_ : List (S48), y_ = (x10_7 ++ [(⟨wrap64 ((wrap64 (a0_0 + 1)) + ((rd_T48 l1 x39_4).f0)), wrap64 (bt t214 x53_7), 0, (⟨#[]⟩ : ByteArray), 0⟩ : S48)]) := ⟨_, rfl⟩
                       replace H : (modbus_Encode.l2 k7 y216 t214 l1 (l1.length : Int) x39_4 (t214.size : Int) (wrap64 (x53_7 + 1)) a0_0 ((rd_T48 l1 x39_4).f0) ((rd_T48 l1 x39_4).f1) ((rd_T48 l1 x39_4).f2) ((rd_T48 l1 x39_4).f3) ((rd_T48 l1 x39_4).f4)) = some (r1, r2) := by first | (rw [hy216]; with_reducible exact H) | (have H2_ := (Option.bind_some _ _).symm.trans H; rw [hy216]; with_reducible exact H2_) | (have H2_ := (Option.bind_some _ _).symm.trans H; with_reducible exact H2_) | with_reducible exact H | (rw [hy216]; exact H) | exact H
                       have Ny216 := sA hy216; clear hy216; have H' := sA H; clear H; have p41 : 0 ≤ (x53_7 : Int) := of_decide_eq_true (by first | (with_reducible assumption) | assumption); have q41 : x53_7 < (t214.size : Int) := of_decide_eq_true (by first | (with_reducible assumption) | assumption); have hx41 := bt_at t214 x53_7; replace p41 := eq_true p41; replace q41 := eq_true q41
                       go_wp2_with (first | ((with_reducible refine gate_dst (N := 15) rfl ?_); refine boxK 15 #[.int .i64 0, .int .i64 0, .int .i64 0, .string (⟨#[]⟩ : ByteArray), .int .i64 0] 48 ?_; intro gb215 hg w44 hbox hb; have BK215 := sA hbox; have GW215 := bsz HB hg; have GE215 := bsz HB hg; have NB207_215 := bnl BK207 hg; have NB215_207 := bng BK207 hg; have NB213_215 := bnl BK213 hg; have NB215_213 := bng BK213 hg; replace HO_10 := sA (Kd.R_below (Kd.R_elderB (rkw HO_10.out) gb215 (Nat.le_of_eq hg.symm)) hb); replace BK207 := sA (blkb BK207.out hb); replace BK213 := sA (blkb BK213.out hb); replace HB := bst HB hb; clear hb hbox hg; have hnb45 := NB215_207.out; have hnc45 := NB207_215.out; have hnb46 := NB215_213.out; have hnc46 := NB213_215.out; obtain ⟨_,_,_,_,_,_,_,_,_,_⟩ := cQ5 BK215; have hnb48 := NB207_213.out; have hnc48 := NB213_207.out; obtain ⟨_,_⟩ := cQ1 BK207; obtain ⟨_,_,_,_,_,_,_,_,_,_⟩ := cQ5 BK213) | ((with_reducible refine gate_builtin (b := .append) (xs := #[.tmp 70, .tmp 72]) rfl ?_); at_builtin; refine Kd.R_append k48 (w0 := w) w.heap.size rfl (.tmp 70) (.tmp 72) 39 48 (.agg #[(.int .i64 0), (.int .i64 0), (.int .i64 0), (.string ⟨#[]⟩), (.int .i64 0)]) 48 rfl Tryd.underlying39 info48 rfl (by decide) (by omega) u10 x10_7 (⟨wrap64 ((wrap64 (a0_0 + 1)) + ((rd_T48 l1 x39_4).f0)), wrap64 (bt t214 x53_7), 0, (⟨#[]⟩ : ByteArray), 0⟩ : S48) [.int .i64 (wrap64 ((wrap64 (a0_0 + 1)) + ((rd_T48 l1 x39_4).f0))), .int .i64 (wrap64 (bt t214 x53_7)), .int .i64 0, .string (⟨#[]⟩ : ByteArray), .int .i64 0] (fun k_ => k_ ≠ gb213 ∧ k_ ≠ gb215) (fun _ => False) rfl (by first | (go_simp; done) | (go_simp; rfl)) ?aP (fun _ hk => hk.elim) ?aF ?aO ?aB ?aS ?aL ?_; (case aP => exact k48_mkM _ _ _ (⟨wrap64 ((wrap64 (a0_0 + 1)) + ((rd_T48 l1 x39_4).f0)), wrap64 (bt t214 x53_7), 0, (⟨#[]⟩ : ByteArray), 0⟩ : S48)); (case aB => exact (hbw HB.out)); (case aF => exact (fun k_ hk => ⟨Kd.freshB (g := gb213) (o := .cells #[.int .i64 ((rd_T48 l1 x39_4).f0), .int .i64 ((rd_T48 l1 x39_4).f1), .int .i64 ((rd_T48 l1 x39_4).f2), .string ((rd_T48 l1 x39_4).f3), .int .i64 ((rd_T48 l1 x39_4).f4)] 48 (0, 0)) (by (repeat (with_reducible first | refine blk_far ?_ NB213_215.out _ | refine blk_drewN ?_ _ | refine blk_drew ?_ | refine blk_alloc ?_ _)); exact BK213.out) k_ hk, Kd.freshB (g := gb215) (o := .cells #[.int .i64 (wrap64 ((wrap64 (a0_0 + 1)) + ((rd_T48 l1 x39_4).f0))), .int .i64 (wrap64 (bt t214 x53_7)), .int .i64 0, .string (⟨#[]⟩ : ByteArray), .int .i64 0] 48 (0, 0)) (by (with_reducible repeat (first | refine blk_drewN ?_ _ | refine blk_drew ?_ | refine blk_alloc ?_ _)); refine blk_put (cs := #[.int .i64 0, .int .i64 (wrap64 (bt t214 x53_7)), .int .i64 0, .string (⟨#[]⟩ : ByteArray), .int .i64 0]) ?_ 0 _ rfl; (with_reducible repeat (first | refine blk_drewN ?_ _ | refine blk_drew ?_ | refine blk_alloc ?_ _)); refine blk_put (cs := #[.int .i64 0, .int .i64 (wrap64 (bt t214 x53_7)), .int .i64 0, .string (⟨#[]⟩ : ByteArray), .int .i64 0]) ?_ 4 _ rfl; (with_reducible repeat (first | refine blk_drewN ?_ _ | refine blk_drew ?_ | refine blk_alloc ?_ _)); refine blk_put (cs := #[.int .i64 0, .int .i64 (wrap64 (bt t214 x53_7)), .int .i64 0, .string (⟨#[]⟩ : ByteArray), .int .i64 0]) ?_ 3 _ rfl; (with_reducible repeat (first | refine blk_drewN ?_ _ | refine blk_drew ?_ | refine blk_alloc ?_ _)); refine blk_put (cs := #[.int .i64 0, .int .i64 (wrap64 (bt t214 x53_7)), .int .i64 0, .string (⟨#[]⟩ : ByteArray), .int .i64 0]) ?_ 2 _ rfl; (with_reducible repeat (first | refine blk_drewN ?_ _ | refine blk_drew ?_ | refine blk_alloc ?_ _)); refine blk_put (cs := #[.int .i64 0, .int .i64 0, .int .i64 0, .string (⟨#[]⟩ : ByteArray), .int .i64 0]) ?_ 1 _ rfl; (with_reducible repeat (first | refine blk_drewN ?_ _ | refine blk_drew ?_ | refine blk_alloc ?_ _)); refine blk_put (cs := #[.int .i64 0, .int .i64 0, .int .i64 0, .string (⟨#[]⟩ : ByteArray), .int .i64 0]) ?_ 0 _ rfl; (with_reducible repeat (first | refine blk_drewN ?_ _ | refine blk_drew ?_ | refine blk_alloc ?_ _)); exact BK215.out) k_ hk⟩)); (case aO => exact (by (with_reducible repeat (first | apply Kd.R_alloc | apply Kd.R_drewN | apply Kd.R_drew)); exact Kd.R_mono (Kd.R_far (p := ⟨gb215, 0, none⟩) (Kd.R_far (p := ⟨gb215, 4, none⟩) (Kd.R_far (p := ⟨gb215, 3, none⟩) (Kd.R_far (p := ⟨gb215, 2, none⟩) (Kd.R_far (p := ⟨gb215, 1, none⟩) (Kd.R_far (p := ⟨gb215, 0, none⟩) (Kd.R_mono HO_10.out (fun k_ hk => (⟨hk, hk.2⟩ : _ ∧ k_ ≠ gb215))) (fun _ hk => hk.2) (.int .i64 0)) (fun _ hk => hk.2) (.int .i64 (wrap64 (bt t214 x53_7)))) (fun _ hk => hk.2) (.int .i64 0)) (fun _ hk => hk.2) (.string (⟨#[]⟩ : ByteArray))) (fun _ hk => hk.2) (.int .i64 0)) (fun _ hk => hk.2) (.int .i64 (wrap64 ((wrap64 (a0_0 + 1)) + ((rd_T48 l1 x39_4).f0))))) (fun _ hk => ⟨hk.1.1, hk.1.2⟩))); (case aS => exact (below_size (hbw HB.out))); (case aL => have := LMc43.out; omega); intro v217 w51 ho hb hg hat; rw [← Ny216.out] at ho; have n0_ := sA (blk_grown (g := gb207) (o := .cells #[.int .i64 a0_0] 23 (0, 0)) (by (repeat (with_reducible first | refine blk_far ?_ NB207_215.out _ | refine blk_drewN ?_ _ | refine blk_drew ?_ | refine blk_alloc ?_ _)); exact BK207.out) hg (Kd.R_ne HO_10.out BK207.out (by decide))); have n1_ := sA (blk_grown (g := gb213) (o := .cells #[.int .i64 ((rd_T48 l1 x39_4).f0), .int .i64 ((rd_T48 l1 x39_4).f1), .int .i64 ((rd_T48 l1 x39_4).f2), .string ((rd_T48 l1 x39_4).f3), .int .i64 ((rd_T48 l1 x39_4).f4)] 48 (0, 0)) (by (repeat (with_reducible first | refine blk_far ?_ NB213_215.out _ | refine blk_drewN ?_ _ | refine blk_drew ?_ | refine blk_alloc ?_ _)); exact BK213.out) hg (Kd.R_away HO_10.out (fun _ hk => hk.1))); have n2_ := sA (blk_grown (g := gb215) (o := .cells #[.int .i64 (wrap64 ((wrap64 (a0_0 + 1)) + ((rd_T48 l1 x39_4).f0))), .int .i64 (wrap64 (bt t214 x53_7)), .int .i64 0, .string (⟨#[]⟩ : ByteArray), .int .i64 0] 48 (0, 0)) (by (with_reducible repeat (first | refine blk_drewN ?_ _ | refine blk_drew ?_ | refine blk_alloc ?_ _)); refine blk_put (cs := #[.int .i64 0, .int .i64 (wrap64 (bt t214 x53_7)), .int .i64 0, .string (⟨#[]⟩ : ByteArray), .int .i64 0]) ?_ 0 _ rfl; (with_reducible repeat (first | refine blk_drewN ?_ _ | refine blk_drew ?_ | refine blk_alloc ?_ _)); refine blk_put (cs := #[.int .i64 0, .int .i64 (wrap64 (bt t214 x53_7)), .int .i64 0, .string (⟨#[]⟩ : ByteArray), .int .i64 0]) ?_ 4 _ rfl; (with_reducible repeat (first | refine blk_drewN ?_ _ | refine blk_drew ?_ | refine blk_alloc ?_ _)); refine blk_put (cs := #[.int .i64 0, .int .i64 (wrap64 (bt t214 x53_7)), .int .i64 0, .string (⟨#[]⟩ : ByteArray), .int .i64 0]) ?_ 3 _ rfl; (with_reducible repeat (first | refine blk_drewN ?_ _ | refine blk_drew ?_ | refine blk_alloc ?_ _)); refine blk_put (cs := #[.int .i64 0, .int .i64 (wrap64 (bt t214 x53_7)), .int .i64 0, .string (⟨#[]⟩ : ByteArray), .int .i64 0]) ?_ 2 _ rfl; (with_reducible repeat (first | refine blk_drewN ?_ _ | refine blk_drew ?_ | refine blk_alloc ?_ _)); refine blk_put (cs := #[.int .i64 0, .int .i64 0, .int .i64 0, .string (⟨#[]⟩ : ByteArray), .int .i64 0]) ?_ 1 _ rfl; (with_reducible repeat (first | refine blk_drewN ?_ _ | refine blk_drew ?_ | refine blk_alloc ?_ _)); refine blk_put (cs := #[.int .i64 0, .int .i64 0, .int .i64 0, .string (⟨#[]⟩ : ByteArray), .int .i64 0]) ?_ 0 _ rfl; (with_reducible repeat (first | refine blk_drewN ?_ _ | refine blk_drew ?_ | refine blk_alloc ?_ _)); exact BK215.out) hg (Kd.R_away HO_10.out (fun _ hk => hk.2))); have n3_ := sA (hb); have n4_ := sA (ho); clear BK207; clear BK213; clear BK215; clear HB; clear HO_10; have BK207 := n0_; have BK213 := n1_; have BK215 := n2_; have HB := n3_; have HO218 := n4_; clear n0_ n1_ n2_ n3_ n4_; clear ho hb hg hat))
                       go_roundg k7
                       case measure => have := HJ3.out; have := HJ8.out; have := HK3.out; have := HK4.out; have := HJ25.out; have := HJ30.out; have := HK7.out; omega
                       case rel => exact ⟨(y216), (wrap64 (x53_7 + 1)), (by first | rfl | (simp; done) | (simp [*]; done)), H', ⟨by have := HJ3.out; have := HJ8.out; have := HK3.out; have := HK4.out; have := HJ25.out; have := HJ30.out; have := HK7.out; omega⟩, ⟨by (with_reducible repeat (first | apply Kd.R_alloc | apply Kd.R_drewN | apply Kd.R_drew)); exact Kd.R_mono HO218.out (fun _ hk => hk.1)⟩, ⟨bkw BK207.out⟩, ⟨bkw BK213.out⟩, ⟨hbw HB.out⟩⟩
                      ·rw [if_neg c43] at H
                       exact absurd H (by simp)
                     ·rw [if_neg c42] at H
                      have c42b0 : (x53_7 == 0) = false := beq_eq_false_iff_ne.mpr c42; have c42b1 : (x53_7 != 0) = true := bne_iff_ne.mpr c42
                      by_cases c52 : x10_7.length < 2932031007402
                      ·rw [if_pos c52] at H
                       have LMc52 := sA c52; clear c52; obtain ⟨y219, hy219⟩ : ∃ y_ : List (S48), y_ = (x10_7 ++ [(⟨0, wrap64 (bt t214 x53_7), 0, (⟨#[]⟩ : ByteArray), 0⟩ : S48)]) := ⟨_, rfl⟩
                       replace H : (modbus_Encode.l2 k7 y219 t214 l1 (l1.length : Int) x39_4 (t214.size : Int) (wrap64 (x53_7 + 1)) a0_0 ((rd_T48 l1 x39_4).f0) ((rd_T48 l1 x39_4).f1) ((rd_T48 l1 x39_4).f2) ((rd_T48 l1 x39_4).f3) ((rd_T48 l1 x39_4).f4)) = some (r1, r2) := by first | (rw [hy219]; with_reducible exact H) | (have H2_ := (Option.bind_some _ _).symm.trans H; rw [hy219]; with_reducible exact H2_) | (have H2_ := (Option.bind_some _ _).symm.trans H; with_reducible exact H2_) | with_reducible exact H | (rw [hy219]; exact H) | exact H
                       have Ny219 := sA hy219; clear hy219; have H' := sA H; clear H; have p41 : 0 ≤ (x53_7 : Int) := of_decide_eq_true (by first | (with_reducible assumption) | assumption); have q41 : x53_7 < (t214.size : Int) := of_decide_eq_true (by first | (with_reducible assumption) | assumption); have hx41 := bt_at t214 x53_7; replace p41 := eq_true p41; replace q41 := eq_true q41
                       go_wp2_with (first | ((with_reducible refine gate_dst (N := 15) rfl ?_); refine boxK 15 #[.int .i64 0, .int .i64 0, .int .i64 0, .string (⟨#[]⟩ : ByteArray), .int .i64 0] 48 ?_; intro gb215 hg w53 hbox hb; have BK215 := sA hbox; have GW215 := bsz HB hg; have GE215 := bsz HB hg; have NB207_215 := bnl BK207 hg; have NB215_207 := bng BK207 hg; have NB213_215 := bnl BK213 hg; have NB215_213 := bng BK213 hg; replace HO_10 := sA (Kd.R_below (Kd.R_elderB (rkw HO_10.out) gb215 (Nat.le_of_eq hg.symm)) hb); replace BK207 := sA (blkb BK207.out hb); replace BK213 := sA (blkb BK213.out hb); replace HB := bst HB hb; clear hb hbox hg; have hnb54 := NB215_207.out; have hnc54 := NB207_215.out; have hnb55 := NB215_213.out; have hnc55 := NB213_215.out; obtain ⟨_,_,_,_,_,_,_,_,_,_⟩ := cQ5 BK215) | ((with_reducible refine gate_builtin (b := .append) (xs := #[.tmp 70, .tmp 72]) rfl ?_); at_builtin; refine Kd.R_append k48 (w0 := w) w.heap.size rfl (.tmp 70) (.tmp 72) 39 48 (.agg #[(.int .i64 0), (.int .i64 0), (.int .i64 0), (.string ⟨#[]⟩), (.int .i64 0)]) 48 rfl Tryd.underlying39 info48 rfl (by decide) (by omega) u10 x10_7 (⟨0, wrap64 (bt t214 x53_7), 0, (⟨#[]⟩ : ByteArray), 0⟩ : S48) [.int .i64 0, .int .i64 (wrap64 (bt t214 x53_7)), .int .i64 0, .string (⟨#[]⟩ : ByteArray), .int .i64 0] (fun k_ => k_ ≠ gb213 ∧ k_ ≠ gb215) (fun _ => False) rfl (by first | (go_simp; done) | (go_simp; rfl)) ?aP (fun _ hk => hk.elim) ?aF ?aO ?aB ?aS ?aL ?_; (case aP => exact k48_mkM _ _ _ (⟨0, wrap64 (bt t214 x53_7), 0, (⟨#[]⟩ : ByteArray), 0⟩ : S48)); (case aB => exact (hbw HB.out)); (case aF => exact (fun k_ hk => ⟨Kd.freshB (g := gb213) (o := .cells #[.int .i64 ((rd_T48 l1 x39_4).f0), .int .i64 ((rd_T48 l1 x39_4).f1), .int .i64 ((rd_T48 l1 x39_4).f2), .string ((rd_T48 l1 x39_4).f3), .int .i64 ((rd_T48 l1 x39_4).f4)] 48 (0, 0)) (by (repeat (with_reducible first | refine blk_far ?_ NB213_215.out _ | refine blk_drewN ?_ _ | refine blk_drew ?_ | refine blk_alloc ?_ _)); exact BK213.out) k_ hk, Kd.freshB (g := gb215) (o := .cells #[.int .i64 0, .int .i64 (wrap64 (bt t214 x53_7)), .int .i64 0, .string (⟨#[]⟩ : ByteArray), .int .i64 0] 48 (0, 0)) (by (with_reducible repeat (first | refine blk_drewN ?_ _ | refine blk_drew ?_ | refine blk_alloc ?_ _)); refine blk_put (cs := #[.int .i64 0, .int .i64 (wrap64 (bt t214 x53_7)), .int .i64 0, .string (⟨#[]⟩ : ByteArray), .int .i64 0]) ?_ 4 _ rfl; (with_reducible repeat (first | refine blk_drewN ?_ _ | refine blk_drew ?_ | refine blk_alloc ?_ _)); refine blk_put (cs := #[.int .i64 0, .int .i64 (wrap64 (bt t214 x53_7)), .int .i64 0, .string (⟨#[]⟩ : ByteArray), .int .i64 0]) ?_ 3 _ rfl; (with_reducible repeat (first | refine blk_drewN ?_ _ | refine blk_drew ?_ | refine blk_alloc ?_ _)); refine blk_put (cs := #[.int .i64 0, .int .i64 (wrap64 (bt t214 x53_7)), .int .i64 0, .string (⟨#[]⟩ : ByteArray), .int .i64 0]) ?_ 2 _ rfl; (with_reducible repeat (first | refine blk_drewN ?_ _ | refine blk_drew ?_ | refine blk_alloc ?_ _)); refine blk_put (cs := #[.int .i64 0, .int .i64 0, .int .i64 0, .string (⟨#[]⟩ : ByteArray), .int .i64 0]) ?_ 1 _ rfl; (with_reducible repeat (first | refine blk_drewN ?_ _ | refine blk_drew ?_ | refine blk_alloc ?_ _)); refine blk_put (cs := #[.int .i64 0, .int .i64 0, .int .i64 0, .string (⟨#[]⟩ : ByteArray), .int .i64 0]) ?_ 0 _ rfl; (with_reducible repeat (first | refine blk_drewN ?_ _ | refine blk_drew ?_ | refine blk_alloc ?_ _)); exact BK215.out) k_ hk⟩)); (case aO => exact (by (with_reducible repeat (first | apply Kd.R_alloc | apply Kd.R_drewN | apply Kd.R_drew)); exact Kd.R_mono (Kd.R_far (p := ⟨gb215, 4, none⟩) (Kd.R_far (p := ⟨gb215, 3, none⟩) (Kd.R_far (p := ⟨gb215, 2, none⟩) (Kd.R_far (p := ⟨gb215, 1, none⟩) (Kd.R_far (p := ⟨gb215, 0, none⟩) (Kd.R_mono HO_10.out (fun k_ hk => (⟨hk, hk.2⟩ : _ ∧ k_ ≠ gb215))) (fun _ hk => hk.2) (.int .i64 0)) (fun _ hk => hk.2) (.int .i64 (wrap64 (bt t214 x53_7)))) (fun _ hk => hk.2) (.int .i64 0)) (fun _ hk => hk.2) (.string (⟨#[]⟩ : ByteArray))) (fun _ hk => hk.2) (.int .i64 0)) (fun _ hk => ⟨hk.1.1, hk.1.2⟩))); (case aS => exact (below_size (hbw HB.out))); (case aL => have := LMc52.out; omega); intro v220 w57 ho hb hg hat; rw [← Ny219.out] at ho; have n0_ := sA (blk_grown (g := gb207) (o := .cells #[.int .i64 a0_0] 23 (0, 0)) (by (repeat (with_reducible first | refine blk_far ?_ NB207_215.out _ | refine blk_drewN ?_ _ | refine blk_drew ?_ | refine blk_alloc ?_ _)); exact BK207.out) hg (Kd.R_ne HO_10.out BK207.out (by decide))); have n1_ := sA (blk_grown (g := gb213) (o := .cells #[.int .i64 ((rd_T48 l1 x39_4).f0), .int .i64 ((rd_T48 l1 x39_4).f1), .int .i64 ((rd_T48 l1 x39_4).f2), .string ((rd_T48 l1 x39_4).f3), .int .i64 ((rd_T48 l1 x39_4).f4)] 48 (0, 0)) (by (repeat (with_reducible first | refine blk_far ?_ NB213_215.out _ | refine blk_drewN ?_ _ | refine blk_drew ?_ | refine blk_alloc ?_ _)); exact BK213.out) hg (Kd.R_away HO_10.out (fun _ hk => hk.1))); have n2_ := sA (blk_grown (g := gb215) (o := .cells #[.int .i64 0, .int .i64 (wrap64 (bt t214 x53_7)), .int .i64 0, .string (⟨#[]⟩ : ByteArray), .int .i64 0] 48 (0, 0)) (by (with_reducible repeat (first | refine blk_drewN ?_ _ | refine blk_drew ?_ | refine blk_alloc ?_ _)); refine blk_put (cs := #[.int .i64 0, .int .i64 (wrap64 (bt t214 x53_7)), .int .i64 0, .string (⟨#[]⟩ : ByteArray), .int .i64 0]) ?_ 4 _ rfl; (with_reducible repeat (first | refine blk_drewN ?_ _ | refine blk_drew ?_ | refine blk_alloc ?_ _)); refine blk_put (cs := #[.int .i64 0, .int .i64 (wrap64 (bt t214 x53_7)), .int .i64 0, .string (⟨#[]⟩ : ByteArray), .int .i64 0]) ?_ 3 _ rfl; (with_reducible repeat (first | refine blk_drewN ?_ _ | refine blk_drew ?_ | refine blk_alloc ?_ _)); refine blk_put (cs := #[.int .i64 0, .int .i64 (wrap64 (bt t214 x53_7)), .int .i64 0, .string (⟨#[]⟩ : ByteArray), .int .i64 0]) ?_ 2 _ rfl; (with_reducible repeat (first | refine blk_drewN ?_ _ | refine blk_drew ?_ | refine blk_alloc ?_ _)); refine blk_put (cs := #[.int .i64 0, .int .i64 0, .int .i64 0, .string (⟨#[]⟩ : ByteArray), .int .i64 0]) ?_ 1 _ rfl; (with_reducible repeat (first | refine blk_drewN ?_ _ | refine blk_drew ?_ | refine blk_alloc ?_ _)); refine blk_put (cs := #[.int .i64 0, .int .i64 0, .int .i64 0, .string (⟨#[]⟩ : ByteArray), .int .i64 0]) ?_ 0 _ rfl; (with_reducible repeat (first | refine blk_drewN ?_ _ | refine blk_drew ?_ | refine blk_alloc ?_ _)); exact BK215.out) hg (Kd.R_away HO_10.out (fun _ hk => hk.2))); have n3_ := sA (hb); have n4_ := sA (ho); clear BK207; clear BK213; clear BK215; clear HB; clear HO_10; have BK207 := n0_; have BK213 := n1_; have BK215 := n2_; have HB := n3_; have HO221 := n4_; clear n0_ n1_ n2_ n3_ n4_; clear ho hb hg hat))
                       go_roundg k7
                       case measure => have := HJ3.out; have := HJ8.out; have := HK3.out; have := HK4.out; have := HJ25.out; have := HJ30.out; have := HK7.out; omega
                       case rel => exact ⟨(y219), (wrap64 (x53_7 + 1)), (by first | rfl | (simp; done) | (simp [*]; done)), H', ⟨by have := HJ3.out; have := HJ8.out; have := HK3.out; have := HK4.out; have := HJ25.out; have := HJ30.out; have := HK7.out; omega⟩, ⟨by (with_reducible repeat (first | apply Kd.R_alloc | apply Kd.R_drewN | apply Kd.R_drew)); exact Kd.R_mono HO221.out (fun _ hk => hk.1)⟩, ⟨bkw BK207.out⟩, ⟨bkw BK213.out⟩, ⟨hbw HB.out⟩⟩
                      ·rw [if_neg c52] at H
                       exact absurd H (by simp)
                    ·rw [if_neg c40] at H
                     exact absurd H (by simp)
                   ·rw [if_neg c39] at H
                    exact absurd H (by simp)
                  ·rw [if_neg c38] at H
                   have c38b0 : decide (x53_7 < (t214.size : Int)) = false := decide_eq_false c38; clear c38; have H' := sA H; clear H
                   go_wp2
                   go_roundg k7
                   case measure => have := HJ3.out; have := HJ8.out; have := HK3.out; have := HK4.out; have := HJ25.out; have := HJ30.out; have := HK7.out; omega
                   case rel => exact ⟨(x10_7), (wrap64 (x39_4 + 1)), (by first | rfl | (simp; done) | (simp [*]; done)), H', ⟨by have := HJ3.out; have := HJ8.out; have := HK3.out; have := HK4.out; have := HJ25.out; have := HJ30.out; have := HK7.out; omega⟩, ⟨by (with_reducible repeat (first | apply Kd.R_alloc | apply Kd.R_drewN | apply Kd.R_drew)); exact Kd.R_mono HO_10.out (fun _ hk => trivial)⟩, ⟨bkw BK207.out⟩, ⟨hbw HB.out⟩⟩
             ·rw [if_neg c29] at H
              exact absurd H (by simp)
            ·rw [if_neg c28] at H
             exact absurd H (by simp)

end Go.Proofs.YtmalhgidhieamaaDoor.PModbusDecodes
