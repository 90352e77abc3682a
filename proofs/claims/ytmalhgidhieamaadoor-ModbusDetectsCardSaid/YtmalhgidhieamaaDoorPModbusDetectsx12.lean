-- Written by a program of this session (wip/tools/pr.py), which calls the kit's print with changes of its own.
import Derived.Test.YtmalhgidhieamaaDoorPModbusDetectsx0
import Derived.Test.YtmalhgidhieamaaDoorPModbusDetectsx8
import Derived.Test.YtmalhgidhieamaaDoorPModbusDetectsx10
import Derived.Test.YtmalhgidhieamaaDoorPModbusDetectsx11
namespace Go.Proofs.YtmalhgidhieamaaDoor.PModbusDetects
open Go.RowKit Go.Proofs.YtmalhgidhieamaaDoorW.PrintWords Go.Proofs.YtmalhgidhieamaaDoorW.PrintLast Go.Proofs.YtmalhgidhieamaaDoorW.PrintMore
attribute [local go_sem] max2_int min2_int max_two min_two max_three min_three max_four min_four   -- for this text's walks alone
set_option linter.unusedVariables false
set_option linter.unusedSimpArgs false

/-! ### signalbenchlaw30_ModbusDetects: function 6 -/
mutual
def signalbenchlaw30_ModbusDetects.j0 : Nat → ByteArray → Int → Int → Int → Int → Int → Option (Bool)
 | 0, _, _, _, _, _, _ => none
 | k + 1, x0, x1, x2, x3, x4, x5 => if (x0.size : Int) > 200 then (signalbenchlaw30_ModbusDetects.j1 k x0 x1 x2 x3 x4 x5 true) else (if x1 < 0 then (signalbenchlaw30_ModbusDetects.j1 k x0 x1 x2 x3 x4 x5 true) else (if x1 > 255 then (signalbenchlaw30_ModbusDetects.j1 k x0 x1 x2 x3 x4 x5 true) else (if x2 < 0 then (signalbenchlaw30_ModbusDetects.j1 k x0 x1 x2 x3 x4 x5 true) else (if x2 > 255 then (signalbenchlaw30_ModbusDetects.j1 k x0 x1 x2 x3 x4 x5 true) else (if x4 < 0 then (signalbenchlaw30_ModbusDetects.j1 k x0 x1 x2 x3 x4 x5 true) else (if x4 > 255 then (signalbenchlaw30_ModbusDetects.j1 k x0 x1 x2 x3 x4 x5 true) else (if x5 < 0 then (signalbenchlaw30_ModbusDetects.j1 k x0 x1 x2 x3 x4 x5 true) else (if x5 > 255 then (signalbenchlaw30_ModbusDetects.j1 k x0 x1 x2 x3 x4 x5 true) else (signalbenchlaw30_ModbusDetects.j1 k x0 x1 x2 x3 x4 x5 ((wrap64 (x4 + x5)) == 0))))))))))
def signalbenchlaw30_ModbusDetects.j1 : Nat → ByteArray → Int → Int → Int → Int → Int → Bool → Option (Bool)
 | 0, _, _, _, _, _, _, _ => none
 | k + 1, x0, x1, x2, x3, x4, x5, x60 => if x60 = true then (some true) else (signalbenchlaw30_ModbusDetects.j2 k x0 x1 x2 x3 x4 x5)
def signalbenchlaw30_ModbusDetects.j2 : Nat → ByteArray → Int → Int → Int → Int → Int → Option (Bool)
 | 0, _, _, _, _, _, _ => none
 | k + 1, x0, x1, x2, x3, x4, x5 => (modbus_Encode.f k 0 (([(⟨0, x1, x2, x0, 0⟩ : S48)] : List (S48)))).bind fun bt257 => (if bt257.2 = 0 then (if (bt257.1.length : Int) = (wrap64 ((x0.size : Int) + 4)) then ((signalbenchlaw30_gaps.f k bt257.1 300).bind fun t261 => (signalbenchlaw30_ModbusDetects.j3 k x3 x4 x5 bt257.1 (!t261))) else (signalbenchlaw30_ModbusDetects.j3 k x3 x4 x5 bt257.1 true)) else (signalbenchlaw30_ModbusDetects.j3 k x3 x4 x5 bt257.1 true))
def signalbenchlaw30_ModbusDetects.j3 : Nat → Int → Int → Int → List (S48) → Bool → Option (Bool)
 | 0, _, _, _, _, _ => none
 | k + 1, x3, x4, x5, x13, x85 => if x85 = true then (some false) else (signalbenchlaw30_ModbusDetects.j4 k x3 x4 x5 x13)
def signalbenchlaw30_ModbusDetects.j4 : Nat → Int → Int → Int → List (S48) → Option (Bool)
 | 0, _, _, _, _ => none
 | k + 1, x3, x4, x5, x13 => if x3 < 0 then (signalbenchlaw30_ModbusDetects.j5 k x3 x4 x5 x13 true) else (signalbenchlaw30_ModbusDetects.j5 k x3 x4 x5 x13 (decide (x3 ≥ (wrap64 ((x13.length : Int) - 1)))))
def signalbenchlaw30_ModbusDetects.j5 : Nat → Int → Int → Int → List (S48) → Bool → Option (Bool)
 | 0, _, _, _, _, _ => none
 | k + 1, x3, x4, x5, x13, x94 => if x94 = true then (some true) else (signalbenchlaw30_ModbusDetects.j6 k x3 x4 x5 x13)
def signalbenchlaw30_ModbusDetects.j6 : Nat → Int → Int → Int → List (S48) → Option (Bool)
 | 0, _, _, _, _ => none
 | k + 1, x3, x4, x5, x13 => (signalbenchlaw30_events.f k x13 1).bind fun t262 => (signalbenchlaw30_ModbusDetects.l0 k x3 x4 x5 t262 0)
def signalbenchlaw30_ModbusDetects.l0 : Nat → Int → Int → Int → List (S32) → Int → Option (Bool)
 | 0, _, _, _, _, _ => none
 | k + 1, x3, x4, x5, x15, x16 => if x16 < (x15.length : Int) then (if 0 ≤ x16 then (if ((rd_T32 x15 x16).f3) < 0 then (some false) else (if ((rd_T32 x15 x16).f3) > 255 then (some false) else (signalbenchlaw30_ModbusDetects.l0 k x3 x4 x5 x15 (wrap64 (x16 + 1))))) else (none)) else (if 0 ≤ x3 then (if x3 < (x15.length : Int) then ((some (x15.set (x3 : Int).toNat (⟨(rd_T32 x15 x3).f0, (rd_T32 x15 x3).f1, (rd_T32 x15 x3).f2, Go.bits .xor .i64 ((rd_T32 x15 x3).f3) x4, (rd_T32 x15 x3).f4, (rd_T32 x15 x3).f5, (rd_T32 x15 x3).f6⟩ : S32) : List (S32))).bind fun y268 => (if 0 ≤ (wrap64 (x3 + 1)) then (if (wrap64 (x3 + 1)) < (x15.length : Int) then ((modbus_Decode.f k 0 (y268.set ((wrap64 (x3 + 1)) : Int).toNat (⟨(rd_T32 y268 (wrap64 (x3 + 1))).f0, (rd_T32 y268 (wrap64 (x3 + 1))).f1, (rd_T32 y268 (wrap64 (x3 + 1))).f2, Go.bits .xor .i64 ((rd_T32 y268 (wrap64 (x3 + 1))).f3) x5, (rd_T32 y268 (wrap64 (x3 + 1))).f4, (rd_T32 y268 (wrap64 (x3 + 1))).f5, (rd_T32 y268 (wrap64 (x3 + 1))).f6⟩ : S32))).bind fun t271 => (if (t271.length : Int) = 1 then (if 0 < (t271.length : Int) then (some (((rd_T32 t271 0).f6) == 3)) else (none)) else (some false))) else (none)) else (none))) else (none)) else (none))
end
def signalbenchlaw30_ModbusDetects.f (k : Nat) (a0 : ByteArray) (a1 : Int) (a2 : Int) (a3 : Int) (a4 : Int) (a5 : Int) : Option (Bool) := (signalbenchlaw30_lives.f k).bind fun t253 => (if t253 = true then (signalbenchlaw30_ModbusDetects.j0 k a0 a1 a2 a3 a4 a5) else (some false))
theorem signalbenchlaw30_ModbusDetects.mono_l : ∀ k, (∀ y0 y1 y2 y3 y4 y5, LeO (signalbenchlaw30_ModbusDetects.j0 k y0 y1 y2 y3 y4 y5) (signalbenchlaw30_ModbusDetects.j0 (k + 1) y0 y1 y2 y3 y4 y5)) ∧ (∀ y0 y1 y2 y3 y4 y5 y6, LeO (signalbenchlaw30_ModbusDetects.j1 k y0 y1 y2 y3 y4 y5 y6) (signalbenchlaw30_ModbusDetects.j1 (k + 1) y0 y1 y2 y3 y4 y5 y6)) ∧ (∀ y0 y1 y2 y3 y4 y5, LeO (signalbenchlaw30_ModbusDetects.j2 k y0 y1 y2 y3 y4 y5) (signalbenchlaw30_ModbusDetects.j2 (k + 1) y0 y1 y2 y3 y4 y5)) ∧ (∀ y0 y1 y2 y3 y4, LeO (signalbenchlaw30_ModbusDetects.j3 k y0 y1 y2 y3 y4) (signalbenchlaw30_ModbusDetects.j3 (k + 1) y0 y1 y2 y3 y4)) ∧ (∀ y0 y1 y2 y3, LeO (signalbenchlaw30_ModbusDetects.j4 k y0 y1 y2 y3) (signalbenchlaw30_ModbusDetects.j4 (k + 1) y0 y1 y2 y3)) ∧ (∀ y0 y1 y2 y3 y4, LeO (signalbenchlaw30_ModbusDetects.j5 k y0 y1 y2 y3 y4) (signalbenchlaw30_ModbusDetects.j5 (k + 1) y0 y1 y2 y3 y4)) ∧ (∀ y0 y1 y2 y3, LeO (signalbenchlaw30_ModbusDetects.j6 k y0 y1 y2 y3) (signalbenchlaw30_ModbusDetects.j6 (k + 1) y0 y1 y2 y3)) ∧ (∀ y0 y1 y2 y3 y4, LeO (signalbenchlaw30_ModbusDetects.l0 k y0 y1 y2 y3 y4) (signalbenchlaw30_ModbusDetects.l0 (k + 1) y0 y1 y2 y3 y4))
 | 0 => ⟨fun _ _ _ _ _ _ r h => by simp [signalbenchlaw30_ModbusDetects.j0] at h, fun _ _ _ _ _ _ _ r h => by simp [signalbenchlaw30_ModbusDetects.j1] at h, fun _ _ _ _ _ _ r h => by simp [signalbenchlaw30_ModbusDetects.j2] at h, fun _ _ _ _ _ r h => by simp [signalbenchlaw30_ModbusDetects.j3] at h, fun _ _ _ _ r h => by simp [signalbenchlaw30_ModbusDetects.j4] at h, fun _ _ _ _ _ r h => by simp [signalbenchlaw30_ModbusDetects.j5] at h, fun _ _ _ _ r h => by simp [signalbenchlaw30_ModbusDetects.j6] at h, fun _ _ _ _ _ r h => by simp [signalbenchlaw30_ModbusDetects.l0] at h⟩
 | k + 1 => by
  obtain ⟨ih0, ih1, ih2, ih3, ih4, ih5, ih6, ih7⟩ := signalbenchlaw30_ModbusDetects.mono_l k
  refine ⟨?_, ?_, ?_, ?_, ?_, ?_, ?_, ?_⟩
  ·intro y0 y1 y2 y3 y4 y5
   unfold signalbenchlaw30_ModbusDetects.j0
   repeat' first
   | (with_reducible exact ih0 _ _ _ _ _ _)
   | (with_reducible exact ih1 _ _ _ _ _ _ _)
   | (with_reducible exact ih2 _ _ _ _ _ _)
   | (with_reducible exact ih3 _ _ _ _ _)
   | (with_reducible exact ih4 _ _ _ _)
   | (with_reducible exact ih5 _ _ _ _ _)
   | (with_reducible exact ih6 _ _ _ _)
   | (with_reducible exact ih7 _ _ _ _ _)
   | (with_reducible exact modbus_Decode.mono _ _ _)
   | (with_reducible exact modbus_Encode.mono _ _ _)
   | (with_reducible exact signalbenchlaw30_events.mono _ _ _)
   | (with_reducible exact signalbenchlaw30_gaps.mono _ _ _)
   | (with_reducible exact signalbenchlaw30_lives.mono _)
   | (with_reducible exact LeO.refl _)
   | (with_reducible exact LeO.none _)
   | (with_reducible refine LeO.ite ?_ ?_)
   | (with_reducible refine LeO.bind ?_ (fun _ => ?_))
   | exact ih0 _ _ _ _ _ _
   | exact ih1 _ _ _ _ _ _ _
   | exact ih2 _ _ _ _ _ _
   | exact ih3 _ _ _ _ _
   | exact ih4 _ _ _ _
   | exact ih5 _ _ _ _ _
   | exact ih6 _ _ _ _
   | exact ih7 _ _ _ _ _
   | exact modbus_Decode.mono _ _ _
   | exact modbus_Encode.mono _ _ _
   | exact signalbenchlaw30_events.mono _ _ _
   | exact signalbenchlaw30_gaps.mono _ _ _
   | exact signalbenchlaw30_lives.mono _
   | exact LeO.none _
   | refine LeO.ite ?_ ?_
   | refine LeO.bind ?_ (fun _ => ?_)
  ·intro y0 y1 y2 y3 y4 y5 y6
   unfold signalbenchlaw30_ModbusDetects.j1
   repeat' first
   | (with_reducible exact ih0 _ _ _ _ _ _)
   | (with_reducible exact ih1 _ _ _ _ _ _ _)
   | (with_reducible exact ih2 _ _ _ _ _ _)
   | (with_reducible exact ih3 _ _ _ _ _)
   | (with_reducible exact ih4 _ _ _ _)
   | (with_reducible exact ih5 _ _ _ _ _)
   | (with_reducible exact ih6 _ _ _ _)
   | (with_reducible exact ih7 _ _ _ _ _)
   | (with_reducible exact modbus_Decode.mono _ _ _)
   | (with_reducible exact modbus_Encode.mono _ _ _)
   | (with_reducible exact signalbenchlaw30_events.mono _ _ _)
   | (with_reducible exact signalbenchlaw30_gaps.mono _ _ _)
   | (with_reducible exact signalbenchlaw30_lives.mono _)
   | (with_reducible exact LeO.refl _)
   | (with_reducible exact LeO.none _)
   | (with_reducible refine LeO.ite ?_ ?_)
   | (with_reducible refine LeO.bind ?_ (fun _ => ?_))
   | exact ih0 _ _ _ _ _ _
   | exact ih1 _ _ _ _ _ _ _
   | exact ih2 _ _ _ _ _ _
   | exact ih3 _ _ _ _ _
   | exact ih4 _ _ _ _
   | exact ih5 _ _ _ _ _
   | exact ih6 _ _ _ _
   | exact ih7 _ _ _ _ _
   | exact modbus_Decode.mono _ _ _
   | exact modbus_Encode.mono _ _ _
   | exact signalbenchlaw30_events.mono _ _ _
   | exact signalbenchlaw30_gaps.mono _ _ _
   | exact signalbenchlaw30_lives.mono _
   | exact LeO.none _
   | refine LeO.ite ?_ ?_
   | refine LeO.bind ?_ (fun _ => ?_)
  ·intro y0 y1 y2 y3 y4 y5
   unfold signalbenchlaw30_ModbusDetects.j2
   repeat' first
   | (with_reducible exact ih0 _ _ _ _ _ _)
   | (with_reducible exact ih1 _ _ _ _ _ _ _)
   | (with_reducible exact ih2 _ _ _ _ _ _)
   | (with_reducible exact ih3 _ _ _ _ _)
   | (with_reducible exact ih4 _ _ _ _)
   | (with_reducible exact ih5 _ _ _ _ _)
   | (with_reducible exact ih6 _ _ _ _)
   | (with_reducible exact ih7 _ _ _ _ _)
   | (with_reducible exact modbus_Decode.mono _ _ _)
   | (with_reducible exact modbus_Encode.mono _ _ _)
   | (with_reducible exact signalbenchlaw30_events.mono _ _ _)
   | (with_reducible exact signalbenchlaw30_gaps.mono _ _ _)
   | (with_reducible exact signalbenchlaw30_lives.mono _)
   | (with_reducible exact LeO.refl _)
   | (with_reducible exact LeO.none _)
   | (with_reducible refine LeO.ite ?_ ?_)
   | (with_reducible refine LeO.bind ?_ (fun _ => ?_))
   | exact ih0 _ _ _ _ _ _
   | exact ih1 _ _ _ _ _ _ _
   | exact ih2 _ _ _ _ _ _
   | exact ih3 _ _ _ _ _
   | exact ih4 _ _ _ _
   | exact ih5 _ _ _ _ _
   | exact ih6 _ _ _ _
   | exact ih7 _ _ _ _ _
   | exact modbus_Decode.mono _ _ _
   | exact modbus_Encode.mono _ _ _
   | exact signalbenchlaw30_events.mono _ _ _
   | exact signalbenchlaw30_gaps.mono _ _ _
   | exact signalbenchlaw30_lives.mono _
   | exact LeO.none _
   | refine LeO.ite ?_ ?_
   | refine LeO.bind ?_ (fun _ => ?_)
  ·intro y0 y1 y2 y3 y4
   unfold signalbenchlaw30_ModbusDetects.j3
   repeat' first
   | (with_reducible exact ih0 _ _ _ _ _ _)
   | (with_reducible exact ih1 _ _ _ _ _ _ _)
   | (with_reducible exact ih2 _ _ _ _ _ _)
   | (with_reducible exact ih3 _ _ _ _ _)
   | (with_reducible exact ih4 _ _ _ _)
   | (with_reducible exact ih5 _ _ _ _ _)
   | (with_reducible exact ih6 _ _ _ _)
   | (with_reducible exact ih7 _ _ _ _ _)
   | (with_reducible exact modbus_Decode.mono _ _ _)
   | (with_reducible exact modbus_Encode.mono _ _ _)
   | (with_reducible exact signalbenchlaw30_events.mono _ _ _)
   | (with_reducible exact signalbenchlaw30_gaps.mono _ _ _)
   | (with_reducible exact signalbenchlaw30_lives.mono _)
   | (with_reducible exact LeO.refl _)
   | (with_reducible exact LeO.none _)
   | (with_reducible refine LeO.ite ?_ ?_)
   | (with_reducible refine LeO.bind ?_ (fun _ => ?_))
   | exact ih0 _ _ _ _ _ _
   | exact ih1 _ _ _ _ _ _ _
   | exact ih2 _ _ _ _ _ _
   | exact ih3 _ _ _ _ _
   | exact ih4 _ _ _ _
   | exact ih5 _ _ _ _ _
   | exact ih6 _ _ _ _
   | exact ih7 _ _ _ _ _
   | exact modbus_Decode.mono _ _ _
   | exact modbus_Encode.mono _ _ _
   | exact signalbenchlaw30_events.mono _ _ _
   | exact signalbenchlaw30_gaps.mono _ _ _
   | exact signalbenchlaw30_lives.mono _
   | exact LeO.none _
   | refine LeO.ite ?_ ?_
   | refine LeO.bind ?_ (fun _ => ?_)
  ·intro y0 y1 y2 y3
   unfold signalbenchlaw30_ModbusDetects.j4
   repeat' first
   | (with_reducible exact ih0 _ _ _ _ _ _)
   | (with_reducible exact ih1 _ _ _ _ _ _ _)
   | (with_reducible exact ih2 _ _ _ _ _ _)
   | (with_reducible exact ih3 _ _ _ _ _)
   | (with_reducible exact ih4 _ _ _ _)
   | (with_reducible exact ih5 _ _ _ _ _)
   | (with_reducible exact ih6 _ _ _ _)
   | (with_reducible exact ih7 _ _ _ _ _)
   | (with_reducible exact modbus_Decode.mono _ _ _)
   | (with_reducible exact modbus_Encode.mono _ _ _)
   | (with_reducible exact signalbenchlaw30_events.mono _ _ _)
   | (with_reducible exact signalbenchlaw30_gaps.mono _ _ _)
   | (with_reducible exact signalbenchlaw30_lives.mono _)
   | (with_reducible exact LeO.refl _)
   | (with_reducible exact LeO.none _)
   | (with_reducible refine LeO.ite ?_ ?_)
   | (with_reducible refine LeO.bind ?_ (fun _ => ?_))
   | exact ih0 _ _ _ _ _ _
   | exact ih1 _ _ _ _ _ _ _
   | exact ih2 _ _ _ _ _ _
   | exact ih3 _ _ _ _ _
   | exact ih4 _ _ _ _
   | exact ih5 _ _ _ _ _
   | exact ih6 _ _ _ _
   | exact ih7 _ _ _ _ _
   | exact modbus_Decode.mono _ _ _
   | exact modbus_Encode.mono _ _ _
   | exact signalbenchlaw30_events.mono _ _ _
   | exact signalbenchlaw30_gaps.mono _ _ _
   | exact signalbenchlaw30_lives.mono _
   | exact LeO.none _
   | refine LeO.ite ?_ ?_
   | refine LeO.bind ?_ (fun _ => ?_)
  ·intro y0 y1 y2 y3 y4
   unfold signalbenchlaw30_ModbusDetects.j5
   repeat' first
   | (with_reducible exact ih0 _ _ _ _ _ _)
   | (with_reducible exact ih1 _ _ _ _ _ _ _)
   | (with_reducible exact ih2 _ _ _ _ _ _)
   | (with_reducible exact ih3 _ _ _ _ _)
   | (with_reducible exact ih4 _ _ _ _)
   | (with_reducible exact ih5 _ _ _ _ _)
   | (with_reducible exact ih6 _ _ _ _)
   | (with_reducible exact ih7 _ _ _ _ _)
   | (with_reducible exact modbus_Decode.mono _ _ _)
   | (with_reducible exact modbus_Encode.mono _ _ _)
   | (with_reducible exact signalbenchlaw30_events.mono _ _ _)
   | (with_reducible exact signalbenchlaw30_gaps.mono _ _ _)
   | (with_reducible exact signalbenchlaw30_lives.mono _)
   | (with_reducible exact LeO.refl _)
   | (with_reducible exact LeO.none _)
   | (with_reducible refine LeO.ite ?_ ?_)
   | (with_reducible refine LeO.bind ?_ (fun _ => ?_))
   | exact ih0 _ _ _ _ _ _
   | exact ih1 _ _ _ _ _ _ _
   | exact ih2 _ _ _ _ _ _
   | exact ih3 _ _ _ _ _
   | exact ih4 _ _ _ _
   | exact ih5 _ _ _ _ _
   | exact ih6 _ _ _ _
   | exact ih7 _ _ _ _ _
   | exact modbus_Decode.mono _ _ _
   | exact modbus_Encode.mono _ _ _
   | exact signalbenchlaw30_events.mono _ _ _
   | exact signalbenchlaw30_gaps.mono _ _ _
   | exact signalbenchlaw30_lives.mono _
   | exact LeO.none _
   | refine LeO.ite ?_ ?_
   | refine LeO.bind ?_ (fun _ => ?_)
  ·intro y0 y1 y2 y3
   unfold signalbenchlaw30_ModbusDetects.j6
   repeat' first
   | (with_reducible exact ih0 _ _ _ _ _ _)
   | (with_reducible exact ih1 _ _ _ _ _ _ _)
   | (with_reducible exact ih2 _ _ _ _ _ _)
   | (with_reducible exact ih3 _ _ _ _ _)
   | (with_reducible exact ih4 _ _ _ _)
   | (with_reducible exact ih5 _ _ _ _ _)
   | (with_reducible exact ih6 _ _ _ _)
   | (with_reducible exact ih7 _ _ _ _ _)
   | (with_reducible exact modbus_Decode.mono _ _ _)
   | (with_reducible exact modbus_Encode.mono _ _ _)
   | (with_reducible exact signalbenchlaw30_events.mono _ _ _)
   | (with_reducible exact signalbenchlaw30_gaps.mono _ _ _)
   | (with_reducible exact signalbenchlaw30_lives.mono _)
   | (with_reducible exact LeO.refl _)
   | (with_reducible exact LeO.none _)
   | (with_reducible refine LeO.ite ?_ ?_)
   | (with_reducible refine LeO.bind ?_ (fun _ => ?_))
   | exact ih0 _ _ _ _ _ _
   | exact ih1 _ _ _ _ _ _ _
   | exact ih2 _ _ _ _ _ _
   | exact ih3 _ _ _ _ _
   | exact ih4 _ _ _ _
   | exact ih5 _ _ _ _ _
   | exact ih6 _ _ _ _
   | exact ih7 _ _ _ _ _
   | exact modbus_Decode.mono _ _ _
   | exact modbus_Encode.mono _ _ _
   | exact signalbenchlaw30_events.mono _ _ _
   | exact signalbenchlaw30_gaps.mono _ _ _
   | exact signalbenchlaw30_lives.mono _
   | exact LeO.none _
   | refine LeO.ite ?_ ?_
   | refine LeO.bind ?_ (fun _ => ?_)
  ·intro y0 y1 y2 y3 y4
   unfold signalbenchlaw30_ModbusDetects.l0
   repeat' first
   | (with_reducible exact ih0 _ _ _ _ _ _)
   | (with_reducible exact ih1 _ _ _ _ _ _ _)
   | (with_reducible exact ih2 _ _ _ _ _ _)
   | (with_reducible exact ih3 _ _ _ _ _)
   | (with_reducible exact ih4 _ _ _ _)
   | (with_reducible exact ih5 _ _ _ _ _)
   | (with_reducible exact ih6 _ _ _ _)
   | (with_reducible exact ih7 _ _ _ _ _)
   | (with_reducible exact modbus_Decode.mono _ _ _)
   | (with_reducible exact modbus_Encode.mono _ _ _)
   | (with_reducible exact signalbenchlaw30_events.mono _ _ _)
   | (with_reducible exact signalbenchlaw30_gaps.mono _ _ _)
   | (with_reducible exact signalbenchlaw30_lives.mono _)
   | (with_reducible exact LeO.refl _)
   | (with_reducible exact LeO.none _)
   | (with_reducible refine LeO.ite ?_ ?_)
   | (with_reducible refine LeO.bind ?_ (fun _ => ?_))
   | exact ih0 _ _ _ _ _ _
   | exact ih1 _ _ _ _ _ _ _
   | exact ih2 _ _ _ _ _ _
   | exact ih3 _ _ _ _ _
   | exact ih4 _ _ _ _
   | exact ih5 _ _ _ _ _
   | exact ih6 _ _ _ _
   | exact ih7 _ _ _ _ _
   | exact modbus_Decode.mono _ _ _
   | exact modbus_Encode.mono _ _ _
   | exact signalbenchlaw30_events.mono _ _ _
   | exact signalbenchlaw30_gaps.mono _ _ _
   | exact signalbenchlaw30_lives.mono _
   | exact LeO.none _
   | refine LeO.ite ?_ ?_
   | refine LeO.bind ?_ (fun _ => ?_)
theorem signalbenchlaw30_ModbusDetects.mono : ∀ a0 a1 a2 a3 a4 a5 k, LeO (signalbenchlaw30_ModbusDetects.f k a0 a1 a2 a3 a4 a5) (signalbenchlaw30_ModbusDetects.f (k + 1) a0 a1 a2 a3 a4 a5) := by
 intro a0 a1 a2 a3 a4 a5 k
 obtain ⟨ih0, ih1, ih2, ih3, ih4, ih5, ih6, ih7⟩ := signalbenchlaw30_ModbusDetects.mono_l k
 unfold signalbenchlaw30_ModbusDetects.f
 repeat' first
   | (with_reducible exact ih0 _ _ _ _ _ _)
   | (with_reducible exact ih1 _ _ _ _ _ _ _)
   | (with_reducible exact ih2 _ _ _ _ _ _)
   | (with_reducible exact ih3 _ _ _ _ _)
   | (with_reducible exact ih4 _ _ _ _)
   | (with_reducible exact ih5 _ _ _ _ _)
   | (with_reducible exact ih6 _ _ _ _)
   | (with_reducible exact ih7 _ _ _ _ _)
   | (with_reducible exact modbus_Decode.mono _ _ _)
   | (with_reducible exact modbus_Encode.mono _ _ _)
   | (with_reducible exact signalbenchlaw30_events.mono _ _ _)
   | (with_reducible exact signalbenchlaw30_gaps.mono _ _ _)
   | (with_reducible exact signalbenchlaw30_lives.mono _)
   | (with_reducible exact LeO.refl _)
   | (with_reducible exact LeO.none _)
   | (with_reducible refine LeO.ite ?_ ?_)
   | (with_reducible refine LeO.bind ?_ (fun _ => ?_))
   | exact ih0 _ _ _ _ _ _
   | exact ih1 _ _ _ _ _ _ _
   | exact ih2 _ _ _ _ _ _
   | exact ih3 _ _ _ _ _
   | exact ih4 _ _ _ _
   | exact ih5 _ _ _ _ _
   | exact ih6 _ _ _ _
   | exact ih7 _ _ _ _ _
   | exact modbus_Decode.mono _ _ _
   | exact modbus_Encode.mono _ _ _
   | exact signalbenchlaw30_events.mono _ _ _
   | exact signalbenchlaw30_gaps.mono _ _ _
   | exact signalbenchlaw30_lives.mono _
   | exact LeO.none _
   | refine LeO.ite ?_ ?_
   | refine LeO.bind ?_ (fun _ => ?_)
set_option maxHeartbeats 8000000 in
set_option maxRecDepth 100000 in
theorem signalbenchlaw30_ModbusDetects.calls (k : Nat) (a0 : ByteArray) (a1 : Int) (a2 : Int) (a3 : Int) (a4 : Int) (a5 : Int) (r : Bool) (w : World) (hT_ : TabOk w) (h : signalbenchlaw30_ModbusDetects.f k a0 a1 a2 a3 a4 a5 = some r) :
  Calls Tryd.prog 6 #[.string a0, .int .i64 a1, .int .i64 a2, .int .i64 a3, .int .i64 a4, .int .i64 a5] w fun e w' => e = .returned (.bool r) ∧ Below w.heap.size w w' := by
 have hu23 := Tryd.underlying23
 have hu48 := Tryd.underlying48
 have HB := Aside0.mk (Below.refl w.heap.size w)
 have H : ((signalbenchlaw30_lives.f k).bind fun t253 => (if t253 = true then (signalbenchlaw30_ModbusDetects.j0 k a0 a1 a2 a3 a4 a5) else (some false))) = some r := h
 clear h
 replace H := Option.bind_eq_some_iff.mp H
 obtain ⟨t253, A70, H⟩ := H
 replace H : (if t253 = true then (signalbenchlaw30_ModbusDetects.j0 k a0 a1 a2 a3 a4 a5) else (some false)) = some r := H
 have A7 := Aside0.mk A70
 clear A70
 have HC8 := Aside0.mk H
 clear H
 go_enter Tryd.func6, Tryd.ntmps6
 go_upto_if 19 with (first | ((with_reducible refine gate_callee (f := 8) rfl ?_); refine goesL_ (some 18) rfl rfl Tryd.func8 (by kernel_rfl) rfl #[] rfl (by (try simp only [List.map_toArray, List.map_cons, List.map_nil]); first | done | rfl | (simp only [List.length_drop, List.length_take]; rfl)) ?_; (with_reducible refine (signalbenchlaw30_lives.calls k  t253 _ ?side1 A7.out).mono ?_); (case side1 => refine TabOk.below hT_ ?_; repeat (first | (with_reducible first | exact HB.out | apply below_alloc | apply pw_below_drewN | apply below_drew1) | exact HB.out)); rintro e w9 ⟨rfl, hb⟩; refine ⟨_, rfl, ?_⟩; have n0_ := Aside0.mk (below_step (hbw HB.out) hb); clear HB; have HB := n0_; clear n0_; (try clear hb); (try clear hb2); (try clear hk); (try clear hi)))
 (try simp only [Act.put, List.setIfInBounds_toArray, List.set_cons_zero, List.set_cons_succ])
 go_cut [] (fun wc => ∃ (kq : Nat), Aside0 (signalbenchlaw30_ModbusDetects.j0 kq a0 a1 a2 a3 a4 a5 = some r) ∧ Aside0 (kq ≤ k) ∧ Aside0 (Below w.heap.size w wc))
 case first =>
  have H := HC8.out
  clear HC8
  by_cases c10 : t253 = true
  ·subst c10
   have H1 : (signalbenchlaw30_ModbusDetects.j0 k a0 a1 a2 a3 a4 a5) = some r := by rw [if_pos rfl] at H; exact H
   clear H
   have H := H1
   clear H1
   have H' := Aside0.mk H
   clear H
   go_wp2
   go_meet
   case rel => exact ⟨_, H', ⟨by first | omega | exact Nat.le_refl _⟩, ⟨by repeat (first | (with_reducible first | exact HB.out | apply below_alloc | apply pw_below_drewN | apply below_drew1) | exact HB.out)⟩⟩
  ·replace c10 := Bool.eq_false_iff.mpr c10
   subst c10
   have H1 : (some false) = some r := by rw [if_neg (show ¬ (false = true) by decide)] at H; exact H
   clear H
   have H := H1
   clear H1
   obtain rfl := Option.some.inj H
   go_wp2
   go_ret
   exact ⟨by first | rfl | (simp [errW_none, errW_some] <;> rfl) | (simp [*, errW_none, errW_some] <;> rfl), by repeat (first | (with_reducible first | exact HB.out | apply below_alloc | apply pw_below_drewN | apply below_drew1) | exact HB.out)⟩
 case rest =>
  clear HC8
  try clear c1
  try clear p2
  try clear c6
  try clear c8
  try clear c10
  obtain ⟨kq, HA, HJ7, HB⟩ := hcut
  cases kq with
  | zero => exact absurd HA.out (by simp [signalbenchlaw30_ModbusDetects.j0])
  | succ kj7 =>
   have H := HA.out
   clear HA
   simp only [signalbenchlaw30_ModbusDetects.j0] at H
   have HC11 := Aside0.mk H
   clear H
   go_upto_region 3 with (fail)
   go_cut [60] (fun v60 wc => ∃ (kq : Nat) (x60_10 : Bool), v60 = .bool x60_10 ∧ Aside0 (signalbenchlaw30_ModbusDetects.j1 kq a0 a1 a2 a3 a4 a5 x60_10 = some r) ∧ Aside0 (kq ≤ kj7) ∧ Aside0 (Below w.heap.size w wc))
   case first =>
    have H := HC11.out
    clear HC11
    by_cases c12 : (a0.size : Int) > 200
    ·rw [if_pos c12] at H
     have c12b0 : decide (200 < (a0.size : Int)) = true := decide_eq_true c12
     have c12b1 : decide (200 < a0.size) = true := decide_eq_true (by omega)
     clear c12
     (first | rw [c12b0] | (simp only [i64_w, i32_w]; rw [c12b0]) | skip)
     have H' := Aside0.mk H
     clear H
     go_wp2
     go_meet
     case rel => exact ⟨_, (true), (by first | rfl | (simp; done) | (simp [*]; done)), H', ⟨by have := HJ7.out; first | omega | exact Nat.le_refl _⟩, ⟨by repeat (first | (with_reducible first | exact HB.out | apply below_alloc | apply pw_below_drewN | apply below_drew1) | exact HB.out)⟩⟩
    ·rw [if_neg c12] at H
     have c12b0 : decide (200 < (a0.size : Int)) = false := decide_eq_false c12
     have c12b1 : decide (200 < a0.size) = false := decide_eq_false (by omega)
     clear c12
     (first | rw [c12b0] | (simp only [i64_w, i32_w]; rw [c12b0]) | skip)
     by_cases c13 : a1 < 0
     ·rw [if_pos c13] at H
      have c13b0 : decide (a1 < 0) = true := decide_eq_true c13
      clear c13
      have H' := Aside0.mk H
      clear H
      go_wp2
      go_meet
      case rel => exact ⟨_, (true), (by first | rfl | (simp; done) | (simp [*]; done)), H', ⟨by have := HJ7.out; first | omega | exact Nat.le_refl _⟩, ⟨by repeat (first | (with_reducible first | exact HB.out | apply below_alloc | apply pw_below_drewN | apply below_drew1) | exact HB.out)⟩⟩
     ·rw [if_neg c13] at H
      have c13b0 : decide (a1 < 0) = false := decide_eq_false c13
      clear c13
      by_cases c14 : a1 > 255
      ·rw [if_pos c14] at H
       have c14b0 : decide (255 < a1) = true := decide_eq_true c14
       clear c14
       have H' := Aside0.mk H
       clear H
       go_wp2
       go_meet
       case rel => exact ⟨_, (true), (by first | rfl | (simp; done) | (simp [*]; done)), H', ⟨by have := HJ7.out; first | omega | exact Nat.le_refl _⟩, ⟨by repeat (first | (with_reducible first | exact HB.out | apply below_alloc | apply pw_below_drewN | apply below_drew1) | exact HB.out)⟩⟩
      ·rw [if_neg c14] at H
       have c14b0 : decide (255 < a1) = false := decide_eq_false c14
       clear c14
       by_cases c15 : a2 < 0
       ·rw [if_pos c15] at H
        have c15b0 : decide (a2 < 0) = true := decide_eq_true c15
        clear c15
        have H' := Aside0.mk H
        clear H
        go_wp2
        go_meet
        case rel => exact ⟨_, (true), (by first | rfl | (simp; done) | (simp [*]; done)), H', ⟨by have := HJ7.out; first | omega | exact Nat.le_refl _⟩, ⟨by repeat (first | (with_reducible first | exact HB.out | apply below_alloc | apply pw_below_drewN | apply below_drew1) | exact HB.out)⟩⟩
       ·rw [if_neg c15] at H
        have c15b0 : decide (a2 < 0) = false := decide_eq_false c15
        clear c15
        by_cases c16 : a2 > 255
        ·rw [if_pos c16] at H
         have c16b0 : decide (255 < a2) = true := decide_eq_true c16
         clear c16
         have H' := Aside0.mk H
         clear H
         go_wp2
         go_meet
         case rel => exact ⟨_, (true), (by first | rfl | (simp; done) | (simp [*]; done)), H', ⟨by have := HJ7.out; first | omega | exact Nat.le_refl _⟩, ⟨by repeat (first | (with_reducible first | exact HB.out | apply below_alloc | apply pw_below_drewN | apply below_drew1) | exact HB.out)⟩⟩
        ·rw [if_neg c16] at H
         have c16b0 : decide (255 < a2) = false := decide_eq_false c16
         clear c16
         by_cases c17 : a4 < 0
         ·rw [if_pos c17] at H
          have c17b0 : decide (a4 < 0) = true := decide_eq_true c17
          clear c17
          have H' := Aside0.mk H
          clear H
          go_wp2
          go_meet
          case rel => exact ⟨_, (true), (by first | rfl | (simp; done) | (simp [*]; done)), H', ⟨by have := HJ7.out; first | omega | exact Nat.le_refl _⟩, ⟨by repeat (first | (with_reducible first | exact HB.out | apply below_alloc | apply pw_below_drewN | apply below_drew1) | exact HB.out)⟩⟩
         ·rw [if_neg c17] at H
          have c17b0 : decide (a4 < 0) = false := decide_eq_false c17
          clear c17
          by_cases c18 : a4 > 255
          ·rw [if_pos c18] at H
           have c18b0 : decide (255 < a4) = true := decide_eq_true c18
           clear c18
           have H' := Aside0.mk H
           clear H
           go_wp2
           go_meet
           case rel => exact ⟨_, (true), (by first | rfl | (simp; done) | (simp [*]; done)), H', ⟨by have := HJ7.out; first | omega | exact Nat.le_refl _⟩, ⟨by repeat (first | (with_reducible first | exact HB.out | apply below_alloc | apply pw_below_drewN | apply below_drew1) | exact HB.out)⟩⟩
          ·rw [if_neg c18] at H
           have c18b0 : decide (255 < a4) = false := decide_eq_false c18
           clear c18
           by_cases c19 : a5 < 0
           ·rw [if_pos c19] at H
            have c19b0 : decide (a5 < 0) = true := decide_eq_true c19
            clear c19
            have H' := Aside0.mk H
            clear H
            go_wp2
            go_meet
            case rel => exact ⟨_, (true), (by first | rfl | (simp; done) | (simp [*]; done)), H', ⟨by have := HJ7.out; first | omega | exact Nat.le_refl _⟩, ⟨by repeat (first | (with_reducible first | exact HB.out | apply below_alloc | apply pw_below_drewN | apply below_drew1) | exact HB.out)⟩⟩
           ·rw [if_neg c19] at H
            have c19b0 : decide (a5 < 0) = false := decide_eq_false c19
            clear c19
            by_cases c20 : a5 > 255
            ·rw [if_pos c20] at H
             have c20b0 : decide (255 < a5) = true := decide_eq_true c20
             clear c20
             have H' := Aside0.mk H
             clear H
             go_wp2
             go_meet
             case rel => exact ⟨_, (true), (by first | rfl | (simp; done) | (simp [*]; done)), H', ⟨by have := HJ7.out; first | omega | exact Nat.le_refl _⟩, ⟨by repeat (first | (with_reducible first | exact HB.out | apply below_alloc | apply pw_below_drewN | apply below_drew1) | exact HB.out)⟩⟩
            ·rw [if_neg c20] at H
             have c20b0 : decide (255 < a5) = false := decide_eq_false c20
             clear c20
             have H' := Aside0.mk H
             clear H
             go_wp2
             go_meet
             case rel => exact ⟨_, (((wrap64 (a4 + a5)) == 0)), (by first | rfl | (simp; done) | (simp [*]; done)), H', ⟨by have := HJ7.out; first | omega | exact Nat.le_refl _⟩, ⟨by repeat (first | (with_reducible first | exact HB.out | apply below_alloc | apply pw_below_drewN | apply below_drew1) | exact HB.out)⟩⟩
   case rest =>
    clear HC11
    try clear c1
    try clear c2
    try clear p2
    try clear c6
    try clear p6
    try clear c8
    try clear c10
    try clear c12
    try clear c12b0
    try clear c12b1
    try clear c13
    try clear c13b0
    try clear c14
    try clear c14b0
    try clear c15
    try clear c15b0
    try clear c16
    try clear c16b0
    try clear c17
    try clear c17b0
    try clear c18
    try clear c18b0
    try clear c19
    try clear c19b0
    try clear c20
    try clear c20b0
    try clear p2
    obtain ⟨kq, x60_10, rfl, HA, HJ10, HB⟩ := hcut
    cases kq with
    | zero => exact absurd HA.out (by simp [signalbenchlaw30_ModbusDetects.j1])
    | succ kj10 =>
     have H := HA.out
     clear HA
     simp only [signalbenchlaw30_ModbusDetects.j1] at H
     have HC21 := Aside0.mk H
     clear H
     go_upto_if 60 with (fail)
     go_cut [] (fun wc => ∃ (kq : Nat), Aside0 (signalbenchlaw30_ModbusDetects.j2 kq a0 a1 a2 a3 a4 a5 = some r) ∧ Aside0 (kq ≤ kj10) ∧ Aside0 (Below w.heap.size w wc))
     case first =>
      have H := HC21.out
      clear HC21
      by_cases c22 : x60_10 = true
      ·subst c22
       have H1 : (some true) = some r := by rw [if_pos rfl] at H; exact H
       clear H
       have H := H1
       clear H1
       obtain rfl := Option.some.inj H
       go_wp2
       go_ret
       exact ⟨by first | rfl | (simp [errW_none, errW_some] <;> rfl) | (simp [*, errW_none, errW_some] <;> rfl), by repeat (first | (with_reducible first | exact HB.out | apply below_alloc | apply pw_below_drewN | apply below_drew1) | exact HB.out)⟩
      ·replace c22 := Bool.eq_false_iff.mpr c22
       subst c22
       have H1 : (signalbenchlaw30_ModbusDetects.j2 kj10 a0 a1 a2 a3 a4 a5) = some r := by rw [if_neg (show ¬ (false = true) by decide)] at H; exact H
       clear H
       have H := H1
       clear H1
       have H' := Aside0.mk H
       clear H
       go_wp2
       go_meet
       case rel => exact ⟨_, H', ⟨by have := HJ7.out; have := HJ10.out; first | omega | exact Nat.le_refl _⟩, ⟨by repeat (first | (with_reducible first | exact HB.out | apply below_alloc | apply pw_below_drewN | apply below_drew1) | exact HB.out)⟩⟩
     case rest =>
      clear HC21
      try clear c1
      try clear c2
      try clear p2
      try clear c6
      try clear p6
      try clear c8
      try clear c10
      try clear c12
      try clear c12b0
      try clear c12b1
      try clear c13
      try clear c13b0
      try clear c14
      try clear c14b0
      try clear c15
      try clear c15b0
      try clear c16
      try clear c16b0
      try clear c17
      try clear c17b0
      try clear c18
      try clear c18b0
      try clear c19
      try clear c19b0
      try clear c20
      try clear c20b0
      try clear c22
      try clear p2
      try clear p6
      obtain ⟨kq, HA, HJ20, HB⟩ := hcut
      cases kq with
      | zero => exact absurd HA.out (by simp [signalbenchlaw30_ModbusDetects.j2])
      | succ kj20 =>
       have H := HA.out
       clear HA
       simp only [signalbenchlaw30_ModbusDetects.j2] at H
       obtain ⟨y254, hy254⟩ : ∃ y_ : List (S48), y_ = (([(⟨0, a1, a2, a0, 0⟩ : S48)] : List (S48))) := ⟨_, rfl⟩
       replace H : ((modbus_Encode.f kj20 0 y254).bind fun bt257 => (if bt257.2 = 0 then (if (bt257.1.length : Int) = (wrap64 ((a0.size : Int) + 4)) then ((signalbenchlaw30_gaps.f kj20 bt257.1 300).bind fun t261 => (signalbenchlaw30_ModbusDetects.j3 kj20 a3 a4 a5 bt257.1 (!t261))) else (signalbenchlaw30_ModbusDetects.j3 kj20 a3 a4 a5 bt257.1 true)) else (signalbenchlaw30_ModbusDetects.j3 kj20 a3 a4 a5 bt257.1 true))) = some r := by first | (rw [hy254]; with_reducible exact H) | (have H2_ := (Option.bind_some _ _).symm.trans H; rw [hy254]; with_reducible exact H2_) | (have H2_ := (Option.bind_some _ _).symm.trans H; with_reducible exact H2_) | with_reducible exact H | (rw [hy254]; exact H) | exact H
       have Ny254 := Aside0.mk hy254
       clear hy254
       replace H := Option.bind_eq_some_iff.mp H
       obtain ⟨⟨t257, t260⟩, A230, H⟩ := H
       replace H : (if t260 = 0 then (if (t257.length : Int) = (wrap64 ((a0.size : Int) + 4)) then ((signalbenchlaw30_gaps.f kj20 t257 300).bind fun t261 => (signalbenchlaw30_ModbusDetects.j3 kj20 a3 a4 a5 t257 (!t261))) else (signalbenchlaw30_ModbusDetects.j3 kj20 a3 a4 a5 t257 true)) else (signalbenchlaw30_ModbusDetects.j3 kj20 a3 a4 a5 t257 true)) = some r := H
       have A23 := Aside0.mk A230
       clear A230
       have HC24 := Aside0.mk H
       clear H
       go_upto_region 6 with (first | ((with_reducible refine gate_dst (N := 67) rfl ?_); (try (refine gate_guard (by first | rfl | (go_simp; done)) ?_; dsimp only)); refine Kd.R_lit k48 _ 48 ?hg (N := 67) ?hd (xs := ([(⟨0, a1, a2, a0, 0⟩ : S48)] : List (S48))) (inner := [.int .i64 0, .int .i64 a1, .int .i64 a2, .string a0, .int .i64 0]) (ok := fun _ => True) (okp := fun _ => True) ?hr ?hp (fun _ hk => hk) trivial (Below.refl _ _) (Nat.le_refl _) (by simp) ?_; (case hd => rfl); (case hg => rfl); (case hr => first | (go_simp; done) | (go_simp; rfl)); (case hp => exact (Reps.c5 (show Kd.M k48 _ _ _ (⟨0, a1, a2, a0, 0⟩ : S48) [.int .i64 0, .int .i64 a1, .int .i64 a2, .string a0, .int .i64 0] from (k48_mkM _ _ _ (⟨0, a1, a2, a0, 0⟩ : S48) )) (Reps.none _ _))); intro v255 w25 ho26 hb hg_ hnew_; clear hg_ hnew_; (first | rw [← Ny254.out] at ho26 | (simp only [Int.reduceToNat] at ho26; rw [← Ny254.out] at ho26)); have n0_ := Aside0.mk (Kd.R_lower ho26 (below_size (hbw HB.out))); have n1_ := Aside0.mk (below_step (hbw HB.out) hb); clear HB; have HO256 := n0_; have HB := n1_; clear n0_ n1_; clear hb ho26; obtain ⟨Ao27, co27, eo27⟩ := Kd.R_slice HO256.out; subst eo27) | ((with_reducible refine gate_callee (f := 21) rfl ?_); refine goesL_ (some 68) rfl rfl Tryd.func21 (by kernel_rfl) rfl #[.agg #[.int .i64 0], .slice Ao27 y254.length co27] rfl (by (try simp only [List.map_toArray, List.map_cons, List.map_nil]); first | done | rfl | (simp only [List.length_drop, List.length_take]; rfl)) ?_; (with_reducible refine (modbus_Encode.calls kj20 0 _ _ y254 t257 t260 _ ?side1 ?side2 ?side3 A23.out).mono ?_); (case side1 => refine TabOk.below hT_ ?_; repeat (first | (with_reducible first | exact HB.out | apply below_alloc | apply pw_below_drewN | apply below_drew1) | exact HB.out)); (case side2 => repeat (first | exact (Kd.R_reads' HO256.out).2.2 | (with_reducible refine Kd.C_alloc ?_ _) | (with_reducible refine Kd.C_drewN ?_ _) | (with_reducible refine Kd.C_drew ?_))); (case side3 => exact (Kd.R_reads' HO256.out).2.1); rintro e w28 ⟨v258, rfl, ho0, hb⟩; refine ⟨_, rfl, ?_⟩; have n0_ := Aside0.mk (Kd.R_elder' (rkw HO256.out) (Kd.R_base ho0) hb); have n1_ := Aside0.mk (Kd.R_lower (Kd.R_new' ho0 (Kd.R_lt (rkw HO256.out))) (below_size (hbw HB.out))); have n2_ := Aside0.mk (below_step (hbw HB.out) hb); clear HO256; clear HB; have HO256 := n0_; have HO259 := n1_; have HB := n2_; clear n0_ n1_ n2_; (try clear hb); (try clear hb2); (try clear hk); (try clear hi); (try clear ho0)))
       (try simp only [Act.put, List.setIfInBounds_toArray, List.set_cons_zero, List.set_cons_succ])
       go_cut [85] (fun v85 wc => ∃ (kq : Nat) (x85_23 : Bool), v85 = .bool x85_23 ∧ Aside0 (signalbenchlaw30_ModbusDetects.j3 kq a3 a4 a5 t257 x85_23 = some r) ∧ Aside0 (kq ≤ kj20) ∧ Aside0 (Kd.R k48 48 wc w.heap.size (fun _ => True) v258 t257) ∧ Aside0 (Below w.heap.size w wc))
       case first =>
        have H := HC24.out
        clear HC24
        by_cases c29 : t260 = 0
        ·rw [if_pos c29] at H
         have c29b0 : (t260 == 0) = true := beq_iff_eq.mpr c29
         have c29b1 : (t260 != 0) = false := bne_eq_false_iff_eq.mpr c29
         clear c29
         (first | rw [c29b0] | (simp only [i64_w, i32_w]; rw [c29b0]) | skip)
         by_cases c30 : (t257.length : Int) = (wrap64 ((a0.size : Int) + 4))
         ·rw [if_pos c30] at H
          have c30b0 : ((t257.length : Int) == (wrap64 ((a0.size : Int) + 4))) = true := beq_iff_eq.mpr c30
          have c30b1 : ((t257.length : Int) != (wrap64 ((a0.size : Int) + 4))) = false := bne_eq_false_iff_eq.mpr c30
          clear c30
          replace H := Option.bind_eq_some_iff.mp H
          obtain ⟨t261, A310, H⟩ := H
          replace H : (signalbenchlaw30_ModbusDetects.j3 kj20 a3 a4 a5 t257 (!t261)) = some r := H
          have A31 := Aside0.mk A310
          clear A310
          have H' := Aside0.mk H
          clear H
          obtain ⟨Ao32, co32, eo32⟩ := Kd.R_slice HO259.out
          subst eo32
          go_wp2_with (first | (go_at_call 24; (with_reducible refine (signalbenchlaw30_gaps.calls kj20 _ _ t257 300 t261 _ ?side1 ?side2 A31.out).mono ?_); (case side1 => repeat (first | exact (Kd.R_reads' HO259.out).2.2 | (with_reducible refine Kd.C_alloc ?_ _) | (with_reducible refine Kd.C_drewN ?_ _) | (with_reducible refine Kd.C_drew ?_))); (case side2 => exact (Kd.R_reads' HO259.out).2.1); rintro e w' ⟨rfl, ⟨nd, rfl⟩⟩))
          go_meet
          case rel => exact ⟨_, (!t261), (by first | rfl | (simp; done) | (simp [*]; done)), H', ⟨by have := HJ7.out; have := HJ10.out; have := HJ20.out; first | omega | exact Nat.le_refl _⟩, ⟨by (with_reducible repeat (first | apply Kd.R_alloc | apply Kd.R_drewN | apply Kd.R_drew)); exact Kd.R_mono HO259.out (fun _ hk => trivial)⟩, ⟨by repeat (first | (with_reducible first | exact HB.out | apply below_alloc | apply pw_below_drewN | apply below_drew1) | exact HB.out)⟩⟩
         ·rw [if_neg c30] at H
          have c30b0 : ((t257.length : Int) == (wrap64 ((a0.size : Int) + 4))) = false := beq_eq_false_iff_ne.mpr c30
          have c30b1 : ((t257.length : Int) != (wrap64 ((a0.size : Int) + 4))) = true := bne_iff_ne.mpr c30
          have H' := Aside0.mk H
          clear H
          obtain ⟨Ao33, co33, eo33⟩ := Kd.R_slice HO259.out
          subst eo33
          go_wp2
          go_meet
          case rel => exact ⟨_, (true), (by first | rfl | (simp; done) | (simp [*]; done)), H', ⟨by have := HJ7.out; have := HJ10.out; have := HJ20.out; first | omega | exact Nat.le_refl _⟩, ⟨by (with_reducible repeat (first | apply Kd.R_alloc | apply Kd.R_drewN | apply Kd.R_drew)); exact Kd.R_mono HO259.out (fun _ hk => trivial)⟩, ⟨by repeat (first | (with_reducible first | exact HB.out | apply below_alloc | apply pw_below_drewN | apply below_drew1) | exact HB.out)⟩⟩
        ·rw [if_neg c29] at H
         have c29b0 : (t260 == 0) = false := beq_eq_false_iff_ne.mpr c29
         have c29b1 : (t260 != 0) = true := bne_iff_ne.mpr c29
         (first | rw [c29b0] | (simp only [i64_w, i32_w]; rw [c29b0]) | skip)
         have H' := Aside0.mk H
         clear H
         go_wp2
         go_meet
         case rel => exact ⟨_, (true), (by first | rfl | (simp; done) | (simp [*]; done)), H', ⟨by have := HJ7.out; have := HJ10.out; have := HJ20.out; first | omega | exact Nat.le_refl _⟩, ⟨by (with_reducible repeat (first | apply Kd.R_alloc | apply Kd.R_drewN | apply Kd.R_drew)); exact Kd.R_mono HO259.out (fun _ hk => trivial)⟩, ⟨by repeat (first | (with_reducible first | exact HB.out | apply below_alloc | apply pw_below_drewN | apply below_drew1) | exact HB.out)⟩⟩
       case rest =>
        clear HC24
        try clear c1
        try clear c2
        try clear p2
        try clear c3
        try clear c5
        try clear c6
        try clear p6
        try clear c8
        try clear c10
        try clear c12
        try clear c12b0
        try clear c12b1
        try clear c13
        try clear c13b0
        try clear c14
        try clear c14b0
        try clear c15
        try clear c15b0
        try clear c16
        try clear c16b0
        try clear c17
        try clear c17b0
        try clear c18
        try clear c18b0
        try clear c19
        try clear c19b0
        try clear c20
        try clear c20b0
        try clear c21
        try clear c22
        try clear c29
        try clear c29b0
        try clear c29b1
        try clear c30
        try clear c30b0
        try clear c30b1
        try clear p2
        try clear p6
        obtain ⟨kq, x85_23, rfl, HA, HJ23, HO_13, HB⟩ := hcut
        cases kq with
        | zero => exact absurd HA.out (by simp [signalbenchlaw30_ModbusDetects.j3])
        | succ kj23 =>
         have H := HA.out
         clear HA
         simp only [signalbenchlaw30_ModbusDetects.j3] at H
         have HC34 := Aside0.mk H
         clear H
         go_upto_if 85 with (fail)
         go_cut [] (fun wc => ∃ (kq : Nat), Aside0 (signalbenchlaw30_ModbusDetects.j4 kq a3 a4 a5 t257 = some r) ∧ Aside0 (kq ≤ kj23) ∧ Aside0 (Kd.R k48 48 wc w.heap.size (fun _ => True) v258 t257) ∧ Aside0 (Below w.heap.size w wc))
         case first =>
          have H := HC34.out
          clear HC34
          by_cases c35 : x85_23 = true
          ·subst c35
           have H1 : (some false) = some r := by rw [if_pos rfl] at H; exact H
           clear H
           have H := H1
           clear H1
           obtain rfl := Option.some.inj H
           go_wp2
           go_ret
           exact ⟨by first | rfl | (simp [errW_none, errW_some] <;> rfl) | (simp [*, errW_none, errW_some] <;> rfl), by repeat (first | (with_reducible first | exact HB.out | apply below_alloc | apply pw_below_drewN | apply below_drew1) | exact HB.out)⟩
          ·replace c35 := Bool.eq_false_iff.mpr c35
           subst c35
           have H1 : (signalbenchlaw30_ModbusDetects.j4 kj23 a3 a4 a5 t257) = some r := by rw [if_neg (show ¬ (false = true) by decide)] at H; exact H
           clear H
           have H := H1
           clear H1
           have H' := Aside0.mk H
           clear H
           go_wp2
           go_meet
           case rel => exact ⟨_, H', ⟨by have := HJ7.out; have := HJ10.out; have := HJ20.out; have := HJ23.out; first | omega | exact Nat.le_refl _⟩, ⟨by (with_reducible repeat (first | apply Kd.R_alloc | apply Kd.R_drewN | apply Kd.R_drew)); exact HO_13.out⟩, ⟨by repeat (first | (with_reducible first | exact HB.out | apply below_alloc | apply pw_below_drewN | apply below_drew1) | exact HB.out)⟩⟩
         case rest =>
          clear HC34
          try clear c1
          try clear c2
          try clear p2
          try clear c3
          try clear c5
          try clear c6
          try clear p6
          try clear c8
          try clear c10
          try clear c12
          try clear c12b0
          try clear c12b1
          try clear c13
          try clear c13b0
          try clear c14
          try clear c14b0
          try clear c15
          try clear c15b0
          try clear c16
          try clear c16b0
          try clear c17
          try clear c17b0
          try clear c18
          try clear c18b0
          try clear c19
          try clear c19b0
          try clear c20
          try clear c20b0
          try clear c21
          try clear c22
          try clear c29
          try clear c29b0
          try clear c29b1
          try clear c30
          try clear c30b0
          try clear c30b1
          try clear c35
          try clear p2
          try clear p6
          obtain ⟨kq, HA, HJ33, HO_13, HB⟩ := hcut
          cases kq with
          | zero => exact absurd HA.out (by simp [signalbenchlaw30_ModbusDetects.j4])
          | succ kj33 =>
           have H := HA.out
           clear HA
           simp only [signalbenchlaw30_ModbusDetects.j4] at H
           have HC36 := Aside0.mk H
           clear H
           go_upto_region 8 with (fail)
           go_cut [94] (fun v94 wc => ∃ (kq : Nat) (x94_35 : Bool), v94 = .bool x94_35 ∧ Aside0 (signalbenchlaw30_ModbusDetects.j5 kq a3 a4 a5 t257 x94_35 = some r) ∧ Aside0 (kq ≤ kj33) ∧ Aside0 (Kd.R k48 48 wc w.heap.size (fun _ => True) v258 t257) ∧ Aside0 (Below w.heap.size w wc))
           case first =>
            have H := HC36.out
            clear HC36
            by_cases c37 : a3 < 0
            ·rw [if_pos c37] at H
             have c37b0 : decide (a3 < 0) = true := decide_eq_true c37
             clear c37
             (first | rw [c37b0] | (simp only [i64_w, i32_w]; rw [c37b0]) | skip)
             have H' := Aside0.mk H
             clear H
             go_wp2
             go_meet
             case rel => exact ⟨_, (true), (by first | rfl | (simp; done) | (simp [*]; done)), H', ⟨by have := HJ7.out; have := HJ10.out; have := HJ20.out; have := HJ23.out; have := HJ33.out; first | omega | exact Nat.le_refl _⟩, ⟨by (with_reducible repeat (first | apply Kd.R_alloc | apply Kd.R_drewN | apply Kd.R_drew)); exact HO_13.out⟩, ⟨by repeat (first | (with_reducible first | exact HB.out | apply below_alloc | apply pw_below_drewN | apply below_drew1) | exact HB.out)⟩⟩
            ·rw [if_neg c37] at H
             have c37b0 : decide (a3 < 0) = false := decide_eq_false c37
             clear c37
             (first | rw [c37b0] | (simp only [i64_w, i32_w]; rw [c37b0]) | skip)
             have H' := Aside0.mk H
             clear H
             obtain ⟨Ao38, co38, eo38⟩ := Kd.R_slice HO_13.out
             subst eo38
             go_wp2
             go_meet
             case rel => exact ⟨_, (decide (a3 ≥ (wrap64 ((t257.length : Int) - 1)))), (by first | rfl | (simp; done) | (simp [*]; done)), H', ⟨by have := HJ7.out; have := HJ10.out; have := HJ20.out; have := HJ23.out; have := HJ33.out; first | omega | exact Nat.le_refl _⟩, ⟨by (with_reducible repeat (first | apply Kd.R_alloc | apply Kd.R_drewN | apply Kd.R_drew)); exact HO_13.out⟩, ⟨by repeat (first | (with_reducible first | exact HB.out | apply below_alloc | apply pw_below_drewN | apply below_drew1) | exact HB.out)⟩⟩
           case rest =>
            clear HC36
            try clear c1
            try clear c2
            try clear p2
            try clear c3
            try clear c5
            try clear c6
            try clear p6
            try clear c8
            try clear c10
            try clear c12
            try clear c12b0
            try clear c12b1
            try clear c13
            try clear c13b0
            try clear c14
            try clear c14b0
            try clear c15
            try clear c15b0
            try clear c16
            try clear c16b0
            try clear c17
            try clear c17b0
            try clear c18
            try clear c18b0
            try clear c19
            try clear c19b0
            try clear c20
            try clear c20b0
            try clear c21
            try clear c22
            try clear c29
            try clear c29b0
            try clear c29b1
            try clear c30
            try clear c30b0
            try clear c30b1
            try clear c35
            try clear c37
            try clear c37b0
            try clear p2
            try clear p6
            obtain ⟨kq, x94_35, rfl, HA, HJ35, HO_13, HB⟩ := hcut
            cases kq with
            | zero => exact absurd HA.out (by simp [signalbenchlaw30_ModbusDetects.j5])
            | succ kj35 =>
             have H := HA.out
             clear HA
             simp only [signalbenchlaw30_ModbusDetects.j5] at H
             have HC39 := Aside0.mk H
             clear H
             go_upto_if 94 with (fail)
             go_cut [] (fun wc => ∃ (kq : Nat), Aside0 (signalbenchlaw30_ModbusDetects.j6 kq a3 a4 a5 t257 = some r) ∧ Aside0 (kq ≤ kj35) ∧ Aside0 (Kd.R k48 48 wc w.heap.size (fun _ => True) v258 t257) ∧ Aside0 (Below w.heap.size w wc))
             case first =>
              have H := HC39.out
              clear HC39
              by_cases c40 : x94_35 = true
              ·subst c40
               have H1 : (some true) = some r := by rw [if_pos rfl] at H; exact H
               clear H
               have H := H1
               clear H1
               obtain rfl := Option.some.inj H
               go_wp2
               go_ret
               exact ⟨by first | rfl | (simp [errW_none, errW_some] <;> rfl) | (simp [*, errW_none, errW_some] <;> rfl), by repeat (first | (with_reducible first | exact HB.out | apply below_alloc | apply pw_below_drewN | apply below_drew1) | exact HB.out)⟩
              ·replace c40 := Bool.eq_false_iff.mpr c40
               subst c40
               have H1 : (signalbenchlaw30_ModbusDetects.j6 kj35 a3 a4 a5 t257) = some r := by rw [if_neg (show ¬ (false = true) by decide)] at H; exact H
               clear H
               have H := H1
               clear H1
               have H' := Aside0.mk H
               clear H
               go_wp2
               go_meet
               case rel => exact ⟨_, H', ⟨by have := HJ7.out; have := HJ10.out; have := HJ20.out; have := HJ23.out; have := HJ33.out; have := HJ35.out; first | omega | exact Nat.le_refl _⟩, ⟨by (with_reducible repeat (first | apply Kd.R_alloc | apply Kd.R_drewN | apply Kd.R_drew)); exact HO_13.out⟩, ⟨by repeat (first | (with_reducible first | exact HB.out | apply below_alloc | apply pw_below_drewN | apply below_drew1) | exact HB.out)⟩⟩
             case rest =>
              clear HC39
              try clear c1
              try clear c2
              try clear p2
              try clear c3
              try clear c4
              try clear c5
              try clear c6
              try clear p6
              try clear c8
              try clear c10
              try clear c12
              try clear c12b0
              try clear c12b1
              try clear c13
              try clear c13b0
              try clear c14
              try clear c14b0
              try clear c15
              try clear c15b0
              try clear c16
              try clear c16b0
              try clear c17
              try clear c17b0
              try clear c18
              try clear c18b0
              try clear c19
              try clear c19b0
              try clear c20
              try clear c20b0
              try clear c21
              try clear c22
              try clear c29
              try clear c29b0
              try clear c29b1
              try clear c30
              try clear c30b0
              try clear c30b1
              try clear c35
              try clear c37
              try clear c37b0
              try clear c40
              try clear p2
              try clear p6
              obtain ⟨kq, HA, HJ38, HO_13, HB⟩ := hcut
              cases kq with
              | zero => exact absurd HA.out (by simp [signalbenchlaw30_ModbusDetects.j6])
              | succ kj38 =>
               have H := HA.out
               clear HA
               simp only [signalbenchlaw30_ModbusDetects.j6] at H
               replace H := Option.bind_eq_some_iff.mp H
               obtain ⟨t262, A410, H⟩ := H
               replace H : (signalbenchlaw30_ModbusDetects.l0 kj38 a3 a4 a5 t262 0) = some r := H
               have A41 := Aside0.mk A410
               clear A410
               have H' := Aside0.mk H
               clear H
               obtain ⟨Ao42, co42, eo42⟩ := Kd.R_slice HO_13.out
               subst eo42
               go_wp2_with (first | ((with_reducible refine gate_callee (f := 25) rfl ?_); refine goesL_ (some 96) rfl rfl Tryd.func25 (by kernel_rfl) rfl #[.slice Ao42 t257.length co42, .int .i64 1] rfl (by (try simp only [List.map_toArray, List.map_cons, List.map_nil]); first | done | rfl | (simp only [List.length_drop, List.length_take]; rfl)) ?_; (with_reducible refine (signalbenchlaw30_events.calls kj38 _ _ t257 1 t262 _ ?side1 ?side2 A41.out).mono ?_); (case side1 => repeat (first | exact (Kd.R_reads' HO_13.out).2.2 | (with_reducible refine Kd.C_alloc ?_ _) | (with_reducible refine Kd.C_drewN ?_ _) | (with_reducible refine Kd.C_drew ?_))); (case side2 => exact (Kd.R_reads' HO_13.out).2.1); rintro e w43 ⟨v263, rfl, ho0, hb⟩; refine ⟨_, rfl, ?_⟩; have n0_ := Aside0.mk (Kd.R_below (rkw HO_13.out) hb); have n1_ := Aside0.mk (Kd.R_lower ho0 (below_size (hbw HB.out))); have n2_ := Aside0.mk (below_step (hbw HB.out) hb); clear HO_13; clear HB; have HO_13 := n0_; have HO264 := n1_; have HB := n2_; clear n0_ n1_ n2_; (try clear hb); (try clear hb2); (try clear hk); (try clear hi); (try clear ho0)))
               go_loopg [16] kj38 (fun kq v16 w' => ∃ (x16_8 : Int), v16 = .int .i64 x16_8 ∧ Aside0 (signalbenchlaw30_ModbusDetects.l0 kq a3 a4 a5 t262 x16_8 = some r) ∧ Aside0 (kq ≤ kj38) ∧ Aside0 (Kd.R k32 32 w' w.heap.size (fun _ => True) v263 t262) ∧ Aside0 (Below w.heap.size w w'))
               case atStart => exact ⟨(0), (by first | rfl | (simp; done) | (simp [*]; done)), H', ⟨Nat.le_refl _⟩, ⟨by (with_reducible repeat (first | apply Kd.R_alloc | apply Kd.R_drewN | apply Kd.R_drew)); exact HO264.out⟩, ⟨by repeat (first | (with_reducible first | exact HB.out | apply below_alloc | apply pw_below_drewN | apply below_drew1) | exact HB.out)⟩⟩
               case round =>
                clear H'
                try clear c1
                try clear c2
                try clear p2
                try clear c3
                try clear c4
                try clear c5
                try clear c6
                try clear p6
                try clear c8
                try clear c10
                try clear c12
                try clear c12b0
                try clear c12b1
                try clear c13
                try clear c13b0
                try clear c14
                try clear c14b0
                try clear c15
                try clear c15b0
                try clear c16
                try clear c16b0
                try clear c17
                try clear c17b0
                try clear c18
                try clear c18b0
                try clear c19
                try clear c19b0
                try clear c20
                try clear c20b0
                try clear c21
                try clear c22
                try clear c25
                try clear c29
                try clear c29b0
                try clear c29b1
                try clear c30
                try clear c30b0
                try clear c30b1
                try clear c35
                try clear c37
                try clear c37b0
                try clear c40
                try clear p2
                try clear p6
                obtain ⟨x16_8, rfl, HA, HK8, HO_15, HB⟩ := hrel
                cases gk with
                | zero => exact absurd HA.out (by simp [signalbenchlaw30_ModbusDetects.l0])
                | succ k8 =>
                 have H := HA.out
                 clear HA
                 simp only [signalbenchlaw30_ModbusDetects.l0] at H
                 by_cases c44 : x16_8 < (t262.length : Int)
                 ·rw [if_pos c44] at H
                  have c44b0 : decide (x16_8 < (t262.length : Int)) = true := decide_eq_true c44
                  clear c44
                  by_cases c45 : 0 ≤ x16_8
                  ·rw [if_pos c45] at H
                   have c45b0 : decide (0 ≤ x16_8) = true := decide_eq_true c45
                   clear c45
                   by_cases c46 : ((rd_T32 t262 x16_8).f3) < 0
                   ·rw [if_pos c46] at H
                    have c46b0 : decide (((rd_T32 t262 x16_8).f3) < 0) = true := decide_eq_true c46
                    clear c46
                    obtain rfl := Option.some.inj H
                    obtain ⟨Ao47, co47, eo47⟩ := Kd.R_slice HO_15.out
                    subst eo47
                    have p265 : 0 ≤ (x16_8 : Int) := of_decide_eq_true (by first | (with_reducible assumption) | assumption)
                    have q265 : x16_8 < (t262.length : Int) := of_decide_eq_true (by first | (with_reducible assumption) | assumption)
                    obtain ⟨ad265, e265, hx265_0, hx265_1, hx265_2, hx265_3, hx265_4, hx265_5, hx265_6⟩ := at_T32 (Kd.R_reads' HO_15.out).2.2 x16_8 p265 q265
                    cases e265
                    replace p265 := eq_true p265
                    replace q265 := eq_true q265
                    go_wp2
                    go_ret
                    exact ⟨by first | rfl | (simp [errW_none, errW_some] <;> rfl) | (simp [*, errW_none, errW_some] <;> rfl), by repeat (first | (with_reducible first | exact HB.out | apply below_alloc | apply pw_below_drewN | apply below_drew1) | exact HB.out)⟩
                   ·rw [if_neg c46] at H
                    have c46b0 : decide (((rd_T32 t262 x16_8).f3) < 0) = false := decide_eq_false c46
                    clear c46
                    by_cases c48 : ((rd_T32 t262 x16_8).f3) > 255
                    ·rw [if_pos c48] at H
                     have c48b0 : decide (255 < ((rd_T32 t262 x16_8).f3)) = true := decide_eq_true c48
                     clear c48
                     obtain rfl := Option.some.inj H
                     obtain ⟨Ao49, co49, eo49⟩ := Kd.R_slice HO_15.out
                     subst eo49
                     have p265 : 0 ≤ (x16_8 : Int) := of_decide_eq_true (by first | (with_reducible assumption) | assumption)
                     have q265 : x16_8 < (t262.length : Int) := of_decide_eq_true (by first | (with_reducible assumption) | assumption)
                     obtain ⟨ad265, e265, hx265_0, hx265_1, hx265_2, hx265_3, hx265_4, hx265_5, hx265_6⟩ := at_T32 (Kd.R_reads' HO_15.out).2.2 x16_8 p265 q265
                     cases e265
                     replace p265 := eq_true p265
                     replace q265 := eq_true q265
                     have p266 : 0 ≤ (x16_8 : Int) := of_decide_eq_true (by first | (with_reducible assumption) | assumption)
                     have q266 : x16_8 < (t262.length : Int) := of_decide_eq_true (by first | (with_reducible assumption) | assumption)
                     obtain ⟨ad266, e266, hx266_0, hx266_1, hx266_2, hx266_3, hx266_4, hx266_5, hx266_6⟩ := at_T32 (Kd.R_reads' HO_15.out).2.2 x16_8 p266 q266
                     obtain rfl : ad265 = ad266 := (by injection e266)
                     replace p266 := eq_true p266
                     replace q266 := eq_true q266
                     go_wp2
                     go_ret
                     exact ⟨by first | rfl | (simp [errW_none, errW_some] <;> rfl) | (simp [*, errW_none, errW_some] <;> rfl), by repeat (first | (with_reducible first | exact HB.out | apply below_alloc | apply pw_below_drewN | apply below_drew1) | exact HB.out)⟩
                    ·rw [if_neg c48] at H
                     have c48b0 : decide (255 < ((rd_T32 t262 x16_8).f3)) = false := decide_eq_false c48
                     clear c48
                     have H' := Aside0.mk H
                     clear H
                     obtain ⟨Ao50, co50, eo50⟩ := Kd.R_slice HO_15.out
                     subst eo50
                     have p265 : 0 ≤ (x16_8 : Int) := of_decide_eq_true (by first | (with_reducible assumption) | assumption)
                     have q265 : x16_8 < (t262.length : Int) := of_decide_eq_true (by first | (with_reducible assumption) | assumption)
                     obtain ⟨ad265, e265, hx265_0, hx265_1, hx265_2, hx265_3, hx265_4, hx265_5, hx265_6⟩ := at_T32 (Kd.R_reads' HO_15.out).2.2 x16_8 p265 q265
                     cases e265
                     replace p265 := eq_true p265
                     replace q265 := eq_true q265
                     have p266 : 0 ≤ (x16_8 : Int) := of_decide_eq_true (by first | (with_reducible assumption) | assumption)
                     have q266 : x16_8 < (t262.length : Int) := of_decide_eq_true (by first | (with_reducible assumption) | assumption)
                     obtain ⟨ad266, e266, hx266_0, hx266_1, hx266_2, hx266_3, hx266_4, hx266_5, hx266_6⟩ := at_T32 (Kd.R_reads' HO_15.out).2.2 x16_8 p266 q266
                     obtain rfl : ad265 = ad266 := (by injection e266)
                     replace p266 := eq_true p266
                     replace q266 := eq_true q266
                     go_wp2
                     go_roundg k8
                     case measure => have := HJ7.out; have := HJ10.out; have := HJ20.out; have := HJ23.out; have := HJ33.out; have := HJ35.out; have := HJ38.out; have := HK8.out; omega
                     case rel => exact ⟨(wrap64 (x16_8 + 1)), (by first | rfl | (simp; done) | (simp [*]; done)), H', ⟨by have := HJ7.out; have := HJ10.out; have := HJ20.out; have := HJ23.out; have := HJ33.out; have := HJ35.out; have := HJ38.out; have := HK8.out; omega⟩, ⟨by (with_reducible repeat (first | apply Kd.R_alloc | apply Kd.R_drewN | apply Kd.R_drew)); exact HO_15.out⟩, ⟨by repeat (first | (with_reducible first | exact HB.out | apply below_alloc | apply pw_below_drewN | apply below_drew1) | exact HB.out)⟩⟩
                  ·rw [if_neg c45] at H
                   exact absurd H (by simp)
                 ·rw [if_neg c44] at H
                  have c44b0 : decide (x16_8 < (t262.length : Int)) = false := decide_eq_false c44
                  clear c44
                  by_cases c51 : 0 ≤ a3
                  ·rw [if_pos c51] at H
                   have c51b0 : decide (0 ≤ a3) = true := decide_eq_true c51
                   clear c51
                   by_cases c52 : a3 < (t262.length : Int)
                   ·rw [if_pos c52] at H
                    have c52b0 : decide (a3 < (t262.length : Int)) = true := decide_eq_true c52
                    clear c52
                    obtain ⟨y268, hy268⟩ : ∃ y_ : List (S32), y_ = (t262.set (a3 : Int).toNat (⟨(rd_T32 t262 a3).f0, (rd_T32 t262 a3).f1, (rd_T32 t262 a3).f2, Go.bits .xor .i64 ((rd_T32 t262 a3).f3) a4, (rd_T32 t262 a3).f4, (rd_T32 t262 a3).f5, (rd_T32 t262 a3).f6⟩ : S32)) := ⟨_, rfl⟩
                    replace H : (if 0 ≤ (wrap64 (a3 + 1)) then (if (wrap64 (a3 + 1)) < (t262.length : Int) then ((modbus_Decode.f k8 0 (y268.set ((wrap64 (a3 + 1)) : Int).toNat (⟨(rd_T32 y268 (wrap64 (a3 + 1))).f0, (rd_T32 y268 (wrap64 (a3 + 1))).f1, (rd_T32 y268 (wrap64 (a3 + 1))).f2, Go.bits .xor .i64 ((rd_T32 y268 (wrap64 (a3 + 1))).f3) a5, (rd_T32 y268 (wrap64 (a3 + 1))).f4, (rd_T32 y268 (wrap64 (a3 + 1))).f5, (rd_T32 y268 (wrap64 (a3 + 1))).f6⟩ : S32))).bind fun t271 => (if (t271.length : Int) = 1 then (if 0 < (t271.length : Int) then (some (((rd_T32 t271 0).f6) == 3)) else (none)) else (some false))) else (none)) else (none)) = some r := by first | (rw [hy268]; with_reducible exact H) | (have H2_ := (Option.bind_some _ _).symm.trans H; rw [hy268]; with_reducible exact H2_) | (have H2_ := (Option.bind_some _ _).symm.trans H; with_reducible exact H2_) | with_reducible exact H | (rw [hy268]; exact H) | exact H
                    have Ny268 := Aside0.mk hy268
                    clear hy268
                    obtain ⟨ji54, hji54⟩ : ∃ j_ : Int, (wrap64 (a3 + 1)) = j_ := ⟨_, rfl⟩
                    replace H : (if 0 ≤ (ji54) then (if (ji54) < (t262.length : Int) then ((modbus_Decode.f k8 0 (y268.set ((ji54) : Int).toNat (⟨(rd_T32 y268 (ji54)).f0, (rd_T32 y268 (ji54)).f1, (rd_T32 y268 (ji54)).f2, Go.bits .xor .i64 ((rd_T32 y268 (ji54)).f3) a5, (rd_T32 y268 (ji54)).f4, (rd_T32 y268 (ji54)).f5, (rd_T32 y268 (ji54)).f6⟩ : S32))).bind fun t271 => (if (t271.length : Int) = 1 then (if 0 < (t271.length : Int) then (some (((rd_T32 t271 0).f6) == 3)) else (none)) else (some false))) else (none)) else (none)) = some r := by first | (rw [hji54] at H; exact H) | (simp only [hji54] at H ⊢; exact H)
                    have hji54w : (IntKind.i64.wrap (a3 + 1)) = ji54 := (i64_w _).trans hji54
                    by_cases c55 : 0 ≤ (ji54)
                    ·rw [if_pos c55] at H
                     have c55b0 : decide (0 ≤ (ji54)) = true := decide_eq_true c55
                     clear c55
                     by_cases c56 : (ji54) < (t262.length : Int)
                     ·rw [if_pos c56] at H
                      have c56b0 : decide ((ji54) < (t262.length : Int)) = true := decide_eq_true c56
                      clear c56
                      obtain ⟨y270, hy270⟩ : ∃ y_ : List (S32), y_ = (y268.set ((ji54) : Int).toNat (⟨(rd_T32 y268 (ji54)).f0, (rd_T32 y268 (ji54)).f1, (rd_T32 y268 (ji54)).f2, Go.bits .xor .i64 ((rd_T32 y268 (ji54)).f3) a5, (rd_T32 y268 (ji54)).f4, (rd_T32 y268 (ji54)).f5, (rd_T32 y268 (ji54)).f6⟩ : S32)) := ⟨_, rfl⟩
                      replace H : ((modbus_Decode.f k8 0 y270).bind fun t271 => (if (t271.length : Int) = 1 then (if 0 < (t271.length : Int) then (some (((rd_T32 t271 0).f6) == 3)) else (none)) else (some false))) = some r := by first | (rw [hy270]; with_reducible exact H) | (have H2_ := (Option.bind_some _ _).symm.trans H; rw [hy270]; with_reducible exact H2_) | (have H2_ := (Option.bind_some _ _).symm.trans H; with_reducible exact H2_) | with_reducible exact H | (rw [hy270]; exact H) | exact H
                      have Ny270 := Aside0.mk hy270
                      clear hy270
                      replace H := Option.bind_eq_some_iff.mp H
                      obtain ⟨t271, A580, H⟩ := H
                      replace H : (if (t271.length : Int) = 1 then (if 0 < (t271.length : Int) then (some (((rd_T32 t271 0).f6) == 3)) else (none)) else (some false)) = some r := H
                      have A58 := Aside0.mk A580
                      clear A580
                      by_cases c59 : (t271.length : Int) = 1
                      ·rw [if_pos c59] at H
                       have c59b0 : ((t271.length : Int) == 1) = true := beq_iff_eq.mpr c59
                       have c59b1 : ((t271.length : Int) != 1) = false := bne_eq_false_iff_eq.mpr c59
                       clear c59
                       by_cases c60 : 0 < (t271.length : Int)
                       ·rw [if_pos c60] at H
                        have c60b0 : decide (0 < (t271.length : Int)) = true := decide_eq_true c60
                        have c60b1 : decide (0 < t271.length) = true := decide_eq_true (by omega)
                        clear c60
                        obtain rfl := Option.some.inj H
                        obtain ⟨Ao61, co61, eo61⟩ := Kd.R_slice HO_15.out
                        subst eo61
                        have p267 : 0 ≤ (a3 : Int) := of_decide_eq_true (by first | (with_reducible assumption) | assumption)
                        have q267 : a3 < (t262.length : Int) := of_decide_eq_true (by first | (with_reducible assumption) | assumption)
                        obtain ⟨ad267, e267, hx267_0, hx267_1, hx267_2, hx267_3, hx267_4, hx267_5, hx267_6⟩ := at_T32 (Kd.R_reads' HO_15.out).2.2 a3 p267 q267
                        cases e267
                        replace p267 := eq_true p267
                        replace q267 := eq_true q267
                        have p53 : 0 ≤ (a3 : Int) := of_decide_eq_true (by first | (with_reducible assumption) | assumption)
                        have q53 : (a3 : Int) < ((t262.length : Int) : Int) := of_decide_eq_true (by first | (with_reducible assumption) | assumption)
                        obtain ⟨go53, co53, eo53, gb53, gl53, cl53, HG53⟩ := Kd.R_form HO_15.out (by omega)
                        (first | cases eo53 | (injection eo53 with ea_ en_ ec_; (first | subst ea_ | (injection ea_ with ea_; subst ea_)); subst ec_; clear en_))
                        have GB53 := Aside0.mk gb53
                        have GG53 := Aside0.mk HG53
                        clear gb53 gl53 HG53
                        (first | simp only [add_plain] at hx267_0 | skip)
                        (first | simp only [add_plain] at hx267_1 | skip)
                        (first | simp only [add_plain] at hx267_2 | skip)
                        (first | simp only [add_plain] at hx267_3 | skip)
                        (first | simp only [add_plain] at hx267_4 | skip)
                        (first | simp only [add_plain] at hx267_5 | skip)
                        (first | simp only [add_plain] at hx267_6 | skip)
                        obtain ⟨ce53, hcl53, hM53, hcc53, hfr53⟩ := Kd.R_elem HO_15.out z32 (a3 : Int) p53 q53
                        obtain rfl := k32_openM hM53
                        have hx53_0 : wr.cell? ⟨go53, (a3 : Int).toNat * 7, none⟩ = some (.int .i64 ((rd_T32 t262 a3).f0)) := hcc53 0 _ rfl
                        have hx53_1 : wr.cell? ⟨go53, (a3 : Int).toNat * 7 + 1, none⟩ = some (.int .i64 ((rd_T32 t262 a3).f1)) := hcc53 1 _ rfl
                        have hx53_2 : wr.cell? ⟨go53, (a3 : Int).toNat * 7 + 2, none⟩ = some (.int .i64 ((rd_T32 t262 a3).f2)) := hcc53 2 _ rfl
                        have hx53_3 : wr.cell? ⟨go53, (a3 : Int).toNat * 7 + 3, none⟩ = some (.int .i64 ((rd_T32 t262 a3).f3)) := hcc53 3 _ rfl
                        have hx53_4 : wr.cell? ⟨go53, (a3 : Int).toNat * 7 + 4, none⟩ = some (.int .i64 ((rd_T32 t262 a3).f4)) := hcc53 4 _ rfl
                        have hx53_5 : wr.cell? ⟨go53, (a3 : Int).toNat * 7 + 5, none⟩ = some (.string ((rd_T32 t262 a3).f5)) := hcc53 5 _ rfl
                        have hx53_6 : wr.cell? ⟨go53, (a3 : Int).toNat * 7 + 6, none⟩ = some (.int .i64 ((rd_T32 t262 a3).f6)) := hcc53 6 _ rfl
                        have hf53_0 : wr.frozen? ⟨go53, (a3 : Int).toNat * 7, none⟩ = false := hfr53 0
                        have hf53_1 : wr.frozen? ⟨go53, (a3 : Int).toNat * 7 + 1, none⟩ = false := hfr53 1
                        have hf53_2 : wr.frozen? ⟨go53, (a3 : Int).toNat * 7 + 2, none⟩ = false := hfr53 2
                        have hf53_3 : wr.frozen? ⟨go53, (a3 : Int).toNat * 7 + 3, none⟩ = false := hfr53 3
                        have hf53_4 : wr.frozen? ⟨go53, (a3 : Int).toNat * 7 + 4, none⟩ = false := hfr53 4
                        have hf53_5 : wr.frozen? ⟨go53, (a3 : Int).toNat * 7 + 5, none⟩ = false := hfr53 5
                        have hf53_6 : wr.frozen? ⟨go53, (a3 : Int).toNat * 7 + 6, none⟩ = false := hfr53 6
                        clear hcl53 hcc53 hfr53 hM53
                        replace p53 := eq_true p53
                        replace q53 := eq_true q53
                        have HX62 := Aside0.mk (show Kd.R k32 32 wr w.heap.size (fun _ => True) (.slice (some ⟨go53, 0, none⟩) t262.length co61) t262 from (rkw HO_15.out))
                        obtain ⟨ce62, hcl62, hM62, hcc62, hfr62⟩ := Kd.R_elem HX62.out z32 (a3 : Int) (of_decide_eq_true (by first | (with_reducible assumption) | assumption)) (by have h_ : (a3 : Int) < ((t262.length : Int) : Int) := of_decide_eq_true (by first | (with_reducible assumption) | assumption); first | exact h_ | (have e_ := (Kd.R_reads' HO_15.out).1; omega) | simpa using h_)
                        obtain rfl := k32_openM hM62
                        have HP62 := Kd.R_seg HX62.out (a3 : Int) (of_decide_eq_true (by first | (with_reducible assumption) | assumption)) (by have h_ : (a3 : Int) < ((t262.length : Int) : Int) := of_decide_eq_true (by first | (with_reducible assumption) | assumption); first | exact h_ | (have e_ := (Kd.R_reads' HO_15.out).1; omega) | simpa using h_) (seg := [.int .i64 (Go.bits .xor .i64 ((rd_T32 t262 a3).f3) a4)]) (j := 3) hcl62 hcc62 (show 4 ≤ 7 from by decide) (x' := (⟨(rd_T32 t262 a3).f0, (rd_T32 t262 a3).f1, (rd_T32 t262 a3).f2, Go.bits .xor .i64 ((rd_T32 t262 a3).f3) a4, (rd_T32 t262 a3).f4, (rd_T32 t262 a3).f5, (rd_T32 t262 a3).f6⟩ : S32)) (k32_mkM _ _ _ (⟨(rd_T32 t262 a3).f0, (rd_T32 t262 a3).f1, (rd_T32 t262 a3).f2, Go.bits .xor .i64 ((rd_T32 t262 a3).f3) a4, (rd_T32 t262 a3).f4, (rd_T32 t262 a3).f5, (rd_T32 t262 a3).f6⟩ : S32) ) (fun _ hk => hk)
                        have hx62_3 := hcc62 3 _ rfl
                        (try simp only [show (k32).sz = 7 from rfl, Nat.mul_one, Nat.add_zero] at hx62_3)
                        have hf62_3 := hfr62 3
                        (try simp only [show (k32).sz = 7 from rfl, Nat.mul_one, Nat.add_zero] at hf62_3)
                        clear hcl62 hcc62 hfr62 hM62
                        go_wp2_with (first | ((with_reducible refine gate_store (t := 3) (p := 127) rfl ?_); refine store_event (t := 3) (p := 127) (v := ?vo_w63) (w1 := (wr.setCell ⟨go53, (a3 : Int).toNat * 7 + 3, none⟩ (.int .i64 (Go.bits .xor .i64 ((rd_T32 t262 a3).f3) a4)))) ?hg ?ho ?hn ?hr ?_; (case ho => rfl); (case hg => rfl); (case hn => rfl); (case hr => first | (go_simp; done) | (go_simp; rfl)); intro w63 hw; have hg : wr.grownBy w63 (some go53) := (by rw [hw]; exact HP62.2); have hp_ : Kd.R k32 32 w63 w.heap.size (fun _ => True) (.slice (some ⟨go53, 0, none⟩) t262.length co61) y268 := (by rw [hw, Ny268.out]; exact HP62.1); clear HP62; have n0_ := Aside0.mk (hp_); have n1_ := Aside0.mk ((by rw [hw]; exact below_set (HB.out) GB53.out : Below w.heap.size w w63)); clear HO_15; clear HB; have HO_15 := n0_; have HB := n1_; clear n0_ n1_; clear hg hw hp_; have p269 : 0 ≤ ((ji54) : Int) := of_decide_eq_true (by first | (with_reducible assumption) | assumption); have q269 : (ji54) < (y268.length : Int) := (by have h_ : ((ji54) : Int) < ((t262.length : Int) : Int) := of_decide_eq_true (by first | (with_reducible assumption) | assumption); first | (have e_ := (Kd.R_reads' HO_15.out).1; omega) | simpa only [Ny268.out, List.length_set] using h_); have ql269 : (((ji54) : Int) < ((t262.length : Int) : Int)) = True := eq_true (of_decide_eq_true (by first | (with_reducible assumption) | assumption)); obtain ⟨ad269, e269, hx269_0, hx269_1, hx269_2, hx269_3, hx269_4, hx269_5, hx269_6⟩ := at_T32 (Kd.R_reads' HO_15.out).2.2 (ji54) p269 q269; obtain rfl : (⟨go53, 0, none⟩ : Addr) = ad269 := (by injection e269); (first | simp only [add_plain] at hx269_0 | simp only [add_at] at hx269_0 | simp only [Addr.add, Nat.zero_add] at hx269_0 | skip); (first | simp only [add_plain] at hx269_1 | simp only [add_at] at hx269_1 | simp only [Addr.add, Nat.zero_add] at hx269_1 | skip); (first | simp only [add_plain] at hx269_2 | simp only [add_at] at hx269_2 | simp only [Addr.add, Nat.zero_add] at hx269_2 | skip); (first | simp only [add_plain] at hx269_3 | simp only [add_at] at hx269_3 | simp only [Addr.add, Nat.zero_add] at hx269_3 | skip); (first | simp only [add_plain] at hx269_4 | simp only [add_at] at hx269_4 | simp only [Addr.add, Nat.zero_add] at hx269_4 | skip); (first | simp only [add_plain] at hx269_5 | simp only [add_at] at hx269_5 | simp only [Addr.add, Nat.zero_add] at hx269_5 | skip); (first | simp only [add_plain] at hx269_6 | simp only [add_at] at hx269_6 | simp only [Addr.add, Nat.zero_add] at hx269_6 | skip); replace p269 := eq_true p269; replace q269 := eq_true q269; have p57 : 0 ≤ ((ji54) : Int) := of_decide_eq_true (by first | (with_reducible assumption) | assumption); have q57 : ((ji54) : Int) < ((t262.length : Int) : Int) := of_decide_eq_true (by first | (with_reducible assumption) | assumption); obtain ⟨ce57, hcl57, hM57, hcc57, hfr57⟩ := Kd.R_elem HO_15.out z32 ((ji54) : Int) p57 q57; obtain rfl := k32_openM hM57; have hx57_0 : w63.cell? ⟨go53, ((ji54) : Int).toNat * 7, none⟩ = some (.int .i64 ((rd_T32 y268 (ji54)).f0)) := hcc57 0 _ rfl; have hx57_1 : w63.cell? ⟨go53, ((ji54) : Int).toNat * 7 + 1, none⟩ = some (.int .i64 ((rd_T32 y268 (ji54)).f1)) := hcc57 1 _ rfl; have hx57_2 : w63.cell? ⟨go53, ((ji54) : Int).toNat * 7 + 2, none⟩ = some (.int .i64 ((rd_T32 y268 (ji54)).f2)) := hcc57 2 _ rfl; have hx57_3 : w63.cell? ⟨go53, ((ji54) : Int).toNat * 7 + 3, none⟩ = some (.int .i64 ((rd_T32 y268 (ji54)).f3)) := hcc57 3 _ rfl; have hx57_4 : w63.cell? ⟨go53, ((ji54) : Int).toNat * 7 + 4, none⟩ = some (.int .i64 ((rd_T32 y268 (ji54)).f4)) := hcc57 4 _ rfl; have hx57_5 : w63.cell? ⟨go53, ((ji54) : Int).toNat * 7 + 5, none⟩ = some (.string ((rd_T32 y268 (ji54)).f5)) := hcc57 5 _ rfl; have hx57_6 : w63.cell? ⟨go53, ((ji54) : Int).toNat * 7 + 6, none⟩ = some (.int .i64 ((rd_T32 y268 (ji54)).f6)) := hcc57 6 _ rfl; have hf57_0 : w63.frozen? ⟨go53, ((ji54) : Int).toNat * 7, none⟩ = false := hfr57 0; have hf57_1 : w63.frozen? ⟨go53, ((ji54) : Int).toNat * 7 + 1, none⟩ = false := hfr57 1; have hf57_2 : w63.frozen? ⟨go53, ((ji54) : Int).toNat * 7 + 2, none⟩ = false := hfr57 2; have hf57_3 : w63.frozen? ⟨go53, ((ji54) : Int).toNat * 7 + 3, none⟩ = false := hfr57 3; have hf57_4 : w63.frozen? ⟨go53, ((ji54) : Int).toNat * 7 + 4, none⟩ = false := hfr57 4; have hf57_5 : w63.frozen? ⟨go53, ((ji54) : Int).toNat * 7 + 5, none⟩ = false := hfr57 5; have hf57_6 : w63.frozen? ⟨go53, ((ji54) : Int).toNat * 7 + 6, none⟩ = false := hfr57 6; clear hcl57 hcc57 hfr57 hM57; replace p57 := eq_true p57; replace q57 := eq_true q57; have HX64 := Aside0.mk (show Kd.R k32 32 w63 w.heap.size (fun _ => True) (.slice (some ⟨go53, 0, none⟩) t262.length co61) y268 from (rkw HO_15.out)); obtain ⟨ce64, hcl64, hM64, hcc64, hfr64⟩ := Kd.R_elem HX64.out z32 ((ji54) : Int) (of_decide_eq_true (by first | (with_reducible assumption) | assumption)) (by have h_ : ((ji54) : Int) < ((t262.length : Int) : Int) := of_decide_eq_true (by first | (with_reducible assumption) | assumption); first | exact h_ | (have e_ := (Kd.R_reads' HO_15.out).1; omega) | simpa using h_); obtain rfl := k32_openM hM64; have HP64 := Kd.R_seg HX64.out ((ji54) : Int) (of_decide_eq_true (by first | (with_reducible assumption) | assumption)) (by have h_ : ((ji54) : Int) < ((t262.length : Int) : Int) := of_decide_eq_true (by first | (with_reducible assumption) | assumption); first | exact h_ | (have e_ := (Kd.R_reads' HO_15.out).1; omega) | simpa using h_) (seg := [.int .i64 (Go.bits .xor .i64 ((rd_T32 y268 (ji54)).f3) a5)]) (j := 3) hcl64 hcc64 (show 4 ≤ 7 from by decide) (x' := (⟨(rd_T32 y268 (ji54)).f0, (rd_T32 y268 (ji54)).f1, (rd_T32 y268 (ji54)).f2, Go.bits .xor .i64 ((rd_T32 y268 (ji54)).f3) a5, (rd_T32 y268 (ji54)).f4, (rd_T32 y268 (ji54)).f5, (rd_T32 y268 (ji54)).f6⟩ : S32)) (k32_mkM _ _ _ (⟨(rd_T32 y268 (ji54)).f0, (rd_T32 y268 (ji54)).f1, (rd_T32 y268 (ji54)).f2, Go.bits .xor .i64 ((rd_T32 y268 (ji54)).f3) a5, (rd_T32 y268 (ji54)).f4, (rd_T32 y268 (ji54)).f5, (rd_T32 y268 (ji54)).f6⟩ : S32) ) (fun _ hk => hk); have hx64_3 := hcc64 3 _ rfl; (try simp only [show (k32).sz = 7 from rfl, Nat.mul_one, Nat.add_zero] at hx64_3); have hf64_3 := hfr64 3; (try simp only [show (k32).sz = 7 from rfl, Nat.mul_one, Nat.add_zero] at hf64_3); clear hcl64 hcc64 hfr64 hM64) | ((with_reducible refine gate_store (t := 3) (p := 140) rfl ?_); refine store_event (t := 3) (p := 140) (v := ?vo_w65) (w1 := (w63.setCell ⟨go53, ((ji54) : Int).toNat * 7 + 3, none⟩ (.int .i64 (Go.bits .xor .i64 ((rd_T32 y268 (ji54)).f3) a5)))) ?hg ?ho ?hn ?hr ?_; (case ho => rfl); (case hg => rfl); (case hn => rfl); (case hr => first | (go_simp; done) | (go_simp; rfl)); intro w65 hw; have hg : w63.grownBy w65 (some go53) := (by rw [hw]; exact HP64.2); have hp_ : Kd.R k32 32 w65 w.heap.size (fun _ => True) (.slice (some ⟨go53, 0, none⟩) t262.length co61) y270 := (by rw [hw, Ny270.out]; exact HP64.1); clear HP64; have n0_ := Aside0.mk (hp_); have n1_ := Aside0.mk ((by rw [hw]; exact below_set (HB.out) GB53.out : Below w.heap.size w w65)); clear HO_15; clear HB; have HO_15 := n0_; have HB := n1_; clear n0_ n1_; clear hg hw hp_) | ((with_reducible refine gate_callee (f := 18) rfl ?_); refine goesL_ (some 143) rfl rfl Tryd.func18 (by kernel_rfl) rfl #[.agg #[.int .i64 0], .slice (some ⟨go53, 0, none⟩) y270.length co61] rfl (by (try simp only [List.map_toArray, List.map_cons, List.map_nil]); first | done | (rw [show y270.length = t262.length from (Kd.R_reads' HO_15.out).1.symm] <;> rfl) | rfl | (simp only [List.length_drop, List.length_take]; rfl)) ?_; (with_reducible refine (modbus_Decode.calls k8 0 _ _ y270 t271 _ ?side1 ?side2 ?side3 A58.out).mono ?_); (case side1 => refine TabOk.below hT_ ?_; repeat (first | (with_reducible first | exact HB.out | apply below_alloc | apply pw_below_drewN | apply below_drew1) | exact HB.out)); (case side2 => repeat (first | exact (Kd.R_reads' HO_15.out).2.2 | (with_reducible refine Kd.C_alloc ?_ _) | (with_reducible refine Kd.C_drewN ?_ _) | (with_reducible refine Kd.C_drew ?_))); (case side3 => rw [show y270.length = t262.length from (Kd.R_reads' HO_15.out).1.symm]; exact (Kd.R_reads' HO_15.out).2.1); rintro e w66 ⟨v272, rfl, ho0, hb⟩; refine ⟨_, rfl, ?_⟩; have n0_ := Aside0.mk (Kd.R_elder' (rkw HO_15.out) (Kd.R_base ho0) hb); have n1_ := Aside0.mk (Kd.R_lower (Kd.R_new' ho0 (Kd.R_lt (rkw HO_15.out))) (below_size (hbw HB.out))); have n2_ := Aside0.mk (below_step (hbw HB.out) hb); clear HO_15; clear HB; have HO_15 := n0_; have HO273 := n1_; have HB := n2_; clear n0_ n1_ n2_; (try clear hb); (try clear hb2); (try clear hk); (try clear hi); (try clear ho0); obtain ⟨Ao67, co67, eo67⟩ := Kd.R_slice HO273.out; subst eo67; have p274 : 0 ≤ (0 : Int) := (by omega); have q274 : 0 < (t271.length : Int) := of_decide_eq_true (by first | (with_reducible assumption) | assumption); obtain ⟨ad274, e274, hx274_0, hx274_1, hx274_2, hx274_3, hx274_4, hx274_5, hx274_6⟩ := at_T32 (Kd.R_reads' HO273.out).2.2 0 p274 q274; cases e274; have qi274 : (0 < t271.length) = True := eq_true (by omega); (try rw [show ((0 : Int)).toNat = 0 from rfl] at hx274_0); (try rw [show 0 * 7 = 0 from rfl] at hx274_0); (try rw [Addr.add_zero'] at hx274_0); (try rw [show ((0 : Int)).toNat = 0 from rfl] at hx274_1); (try rw [show 0 * 7 = 0 from rfl] at hx274_1); (try rw [Addr.add_zero'] at hx274_1); (try rw [show ((0 : Int)).toNat = 0 from rfl] at hx274_2); (try rw [show 0 * 7 = 0 from rfl] at hx274_2); (try rw [Addr.add_zero'] at hx274_2); (try rw [show ((0 : Int)).toNat = 0 from rfl] at hx274_3); (try rw [show 0 * 7 = 0 from rfl] at hx274_3); (try rw [Addr.add_zero'] at hx274_3); (try rw [show ((0 : Int)).toNat = 0 from rfl] at hx274_4); (try rw [show 0 * 7 = 0 from rfl] at hx274_4); (try rw [Addr.add_zero'] at hx274_4); (try rw [show ((0 : Int)).toNat = 0 from rfl] at hx274_5); (try rw [show 0 * 7 = 0 from rfl] at hx274_5); (try rw [Addr.add_zero'] at hx274_5); (try rw [show ((0 : Int)).toNat = 0 from rfl] at hx274_6); (try rw [show 0 * 7 = 0 from rfl] at hx274_6); (try rw [Addr.add_zero'] at hx274_6); replace p274 := eq_true p274; replace q274 := eq_true q274))
                        go_ret
                        exact ⟨by first | rfl | (simp [errW_none, errW_some] <;> rfl) | (simp only [← hji54]; first | rfl | (simp [errW_none, errW_some] <;> rfl)) | (simp [*, errW_none, errW_some] <;> rfl), by repeat (first | (with_reducible first | exact HB.out | apply below_alloc | apply pw_below_drewN | apply below_drew1) | exact HB.out)⟩
                       ·rw [if_neg c60] at H
                        exact absurd H (by simp)
                      ·rw [if_neg c59] at H
                       have c59b0 : ((t271.length : Int) == 1) = false := beq_eq_false_iff_ne.mpr c59
                       have c59b1 : ((t271.length : Int) != 1) = true := bne_iff_ne.mpr c59
                       obtain rfl := Option.some.inj H
                       obtain ⟨Ao68, co68, eo68⟩ := Kd.R_slice HO_15.out
                       subst eo68
                       have p267 : 0 ≤ (a3 : Int) := of_decide_eq_true (by first | (with_reducible assumption) | assumption)
                       have q267 : a3 < (t262.length : Int) := of_decide_eq_true (by first | (with_reducible assumption) | assumption)
                       obtain ⟨ad267, e267, hx267_0, hx267_1, hx267_2, hx267_3, hx267_4, hx267_5, hx267_6⟩ := at_T32 (Kd.R_reads' HO_15.out).2.2 a3 p267 q267
                       cases e267
                       replace p267 := eq_true p267
                       replace q267 := eq_true q267
                       have p53 : 0 ≤ (a3 : Int) := of_decide_eq_true (by first | (with_reducible assumption) | assumption)
                       have q53 : (a3 : Int) < ((t262.length : Int) : Int) := of_decide_eq_true (by first | (with_reducible assumption) | assumption)
                       obtain ⟨go53, co53, eo53, gb53, gl53, cl53, HG53⟩ := Kd.R_form HO_15.out (by omega)
                       (first | cases eo53 | (injection eo53 with ea_ en_ ec_; (first | subst ea_ | (injection ea_ with ea_; subst ea_)); subst ec_; clear en_))
                       have GB53 := Aside0.mk gb53
                       have GG53 := Aside0.mk HG53
                       clear gb53 gl53 HG53
                       (first | simp only [add_plain] at hx267_0 | skip)
                       (first | simp only [add_plain] at hx267_1 | skip)
                       (first | simp only [add_plain] at hx267_2 | skip)
                       (first | simp only [add_plain] at hx267_3 | skip)
                       (first | simp only [add_plain] at hx267_4 | skip)
                       (first | simp only [add_plain] at hx267_5 | skip)
                       (first | simp only [add_plain] at hx267_6 | skip)
                       obtain ⟨ce53, hcl53, hM53, hcc53, hfr53⟩ := Kd.R_elem HO_15.out z32 (a3 : Int) p53 q53
                       obtain rfl := k32_openM hM53
                       have hx53_0 : wr.cell? ⟨go53, (a3 : Int).toNat * 7, none⟩ = some (.int .i64 ((rd_T32 t262 a3).f0)) := hcc53 0 _ rfl
                       have hx53_1 : wr.cell? ⟨go53, (a3 : Int).toNat * 7 + 1, none⟩ = some (.int .i64 ((rd_T32 t262 a3).f1)) := hcc53 1 _ rfl
                       have hx53_2 : wr.cell? ⟨go53, (a3 : Int).toNat * 7 + 2, none⟩ = some (.int .i64 ((rd_T32 t262 a3).f2)) := hcc53 2 _ rfl
                       have hx53_3 : wr.cell? ⟨go53, (a3 : Int).toNat * 7 + 3, none⟩ = some (.int .i64 ((rd_T32 t262 a3).f3)) := hcc53 3 _ rfl
                       have hx53_4 : wr.cell? ⟨go53, (a3 : Int).toNat * 7 + 4, none⟩ = some (.int .i64 ((rd_T32 t262 a3).f4)) := hcc53 4 _ rfl
                       have hx53_5 : wr.cell? ⟨go53, (a3 : Int).toNat * 7 + 5, none⟩ = some (.string ((rd_T32 t262 a3).f5)) := hcc53 5 _ rfl
                       have hx53_6 : wr.cell? ⟨go53, (a3 : Int).toNat * 7 + 6, none⟩ = some (.int .i64 ((rd_T32 t262 a3).f6)) := hcc53 6 _ rfl
                       have hf53_0 : wr.frozen? ⟨go53, (a3 : Int).toNat * 7, none⟩ = false := hfr53 0
                       have hf53_1 : wr.frozen? ⟨go53, (a3 : Int).toNat * 7 + 1, none⟩ = false := hfr53 1
                       have hf53_2 : wr.frozen? ⟨go53, (a3 : Int).toNat * 7 + 2, none⟩ = false := hfr53 2
                       have hf53_3 : wr.frozen? ⟨go53, (a3 : Int).toNat * 7 + 3, none⟩ = false := hfr53 3
                       have hf53_4 : wr.frozen? ⟨go53, (a3 : Int).toNat * 7 + 4, none⟩ = false := hfr53 4
                       have hf53_5 : wr.frozen? ⟨go53, (a3 : Int).toNat * 7 + 5, none⟩ = false := hfr53 5
                       have hf53_6 : wr.frozen? ⟨go53, (a3 : Int).toNat * 7 + 6, none⟩ = false := hfr53 6
                       clear hcl53 hcc53 hfr53 hM53
                       replace p53 := eq_true p53
                       replace q53 := eq_true q53
                       have HX69 := Aside0.mk (show Kd.R k32 32 wr w.heap.size (fun _ => True) (.slice (some ⟨go53, 0, none⟩) t262.length co68) t262 from (rkw HO_15.out))
                       obtain ⟨ce69, hcl69, hM69, hcc69, hfr69⟩ := Kd.R_elem HX69.out z32 (a3 : Int) (of_decide_eq_true (by first | (with_reducible assumption) | assumption)) (by have h_ : (a3 : Int) < ((t262.length : Int) : Int) := of_decide_eq_true (by first | (with_reducible assumption) | assumption); first | exact h_ | (have e_ := (Kd.R_reads' HO_15.out).1; omega) | simpa using h_)
                       obtain rfl := k32_openM hM69
                       have HP69 := Kd.R_seg HX69.out (a3 : Int) (of_decide_eq_true (by first | (with_reducible assumption) | assumption)) (by have h_ : (a3 : Int) < ((t262.length : Int) : Int) := of_decide_eq_true (by first | (with_reducible assumption) | assumption); first | exact h_ | (have e_ := (Kd.R_reads' HO_15.out).1; omega) | simpa using h_) (seg := [.int .i64 (Go.bits .xor .i64 ((rd_T32 t262 a3).f3) a4)]) (j := 3) hcl69 hcc69 (show 4 ≤ 7 from by decide) (x' := (⟨(rd_T32 t262 a3).f0, (rd_T32 t262 a3).f1, (rd_T32 t262 a3).f2, Go.bits .xor .i64 ((rd_T32 t262 a3).f3) a4, (rd_T32 t262 a3).f4, (rd_T32 t262 a3).f5, (rd_T32 t262 a3).f6⟩ : S32)) (k32_mkM _ _ _ (⟨(rd_T32 t262 a3).f0, (rd_T32 t262 a3).f1, (rd_T32 t262 a3).f2, Go.bits .xor .i64 ((rd_T32 t262 a3).f3) a4, (rd_T32 t262 a3).f4, (rd_T32 t262 a3).f5, (rd_T32 t262 a3).f6⟩ : S32) ) (fun _ hk => hk)
                       have hx69_3 := hcc69 3 _ rfl
                       (try simp only [show (k32).sz = 7 from rfl, Nat.mul_one, Nat.add_zero] at hx69_3)
                       have hf69_3 := hfr69 3
                       (try simp only [show (k32).sz = 7 from rfl, Nat.mul_one, Nat.add_zero] at hf69_3)
                       clear hcl69 hcc69 hfr69 hM69
                       go_wp2_with (first | ((with_reducible refine gate_store (t := 3) (p := 127) rfl ?_); refine store_event (t := 3) (p := 127) (v := ?vo_w70) (w1 := (wr.setCell ⟨go53, (a3 : Int).toNat * 7 + 3, none⟩ (.int .i64 (Go.bits .xor .i64 ((rd_T32 t262 a3).f3) a4)))) ?hg ?ho ?hn ?hr ?_; (case ho => rfl); (case hg => rfl); (case hn => rfl); (case hr => first | (go_simp; done) | (go_simp; rfl)); intro w70 hw; have hg : wr.grownBy w70 (some go53) := (by rw [hw]; exact HP69.2); have hp_ : Kd.R k32 32 w70 w.heap.size (fun _ => True) (.slice (some ⟨go53, 0, none⟩) t262.length co68) y268 := (by rw [hw, Ny268.out]; exact HP69.1); clear HP69; have n0_ := Aside0.mk (hp_); have n1_ := Aside0.mk ((by rw [hw]; exact below_set (HB.out) GB53.out : Below w.heap.size w w70)); clear HO_15; clear HB; have HO_15 := n0_; have HB := n1_; clear n0_ n1_; clear hg hw hp_; have p269 : 0 ≤ ((ji54) : Int) := of_decide_eq_true (by first | (with_reducible assumption) | assumption); have q269 : (ji54) < (y268.length : Int) := (by have h_ : ((ji54) : Int) < ((t262.length : Int) : Int) := of_decide_eq_true (by first | (with_reducible assumption) | assumption); first | (have e_ := (Kd.R_reads' HO_15.out).1; omega) | simpa only [Ny268.out, List.length_set] using h_); have ql269 : (((ji54) : Int) < ((t262.length : Int) : Int)) = True := eq_true (of_decide_eq_true (by first | (with_reducible assumption) | assumption)); obtain ⟨ad269, e269, hx269_0, hx269_1, hx269_2, hx269_3, hx269_4, hx269_5, hx269_6⟩ := at_T32 (Kd.R_reads' HO_15.out).2.2 (ji54) p269 q269; obtain rfl : (⟨go53, 0, none⟩ : Addr) = ad269 := (by injection e269); (first | simp only [add_plain] at hx269_0 | simp only [add_at] at hx269_0 | simp only [Addr.add, Nat.zero_add] at hx269_0 | skip); (first | simp only [add_plain] at hx269_1 | simp only [add_at] at hx269_1 | simp only [Addr.add, Nat.zero_add] at hx269_1 | skip); (first | simp only [add_plain] at hx269_2 | simp only [add_at] at hx269_2 | simp only [Addr.add, Nat.zero_add] at hx269_2 | skip); (first | simp only [add_plain] at hx269_3 | simp only [add_at] at hx269_3 | simp only [Addr.add, Nat.zero_add] at hx269_3 | skip); (first | simp only [add_plain] at hx269_4 | simp only [add_at] at hx269_4 | simp only [Addr.add, Nat.zero_add] at hx269_4 | skip); (first | simp only [add_plain] at hx269_5 | simp only [add_at] at hx269_5 | simp only [Addr.add, Nat.zero_add] at hx269_5 | skip); (first | simp only [add_plain] at hx269_6 | simp only [add_at] at hx269_6 | simp only [Addr.add, Nat.zero_add] at hx269_6 | skip); replace p269 := eq_true p269; replace q269 := eq_true q269; have p57 : 0 ≤ ((ji54) : Int) := of_decide_eq_true (by first | (with_reducible assumption) | assumption); have q57 : ((ji54) : Int) < ((t262.length : Int) : Int) := of_decide_eq_true (by first | (with_reducible assumption) | assumption); obtain ⟨ce57, hcl57, hM57, hcc57, hfr57⟩ := Kd.R_elem HO_15.out z32 ((ji54) : Int) p57 q57; obtain rfl := k32_openM hM57; have hx57_0 : w70.cell? ⟨go53, ((ji54) : Int).toNat * 7, none⟩ = some (.int .i64 ((rd_T32 y268 (ji54)).f0)) := hcc57 0 _ rfl; have hx57_1 : w70.cell? ⟨go53, ((ji54) : Int).toNat * 7 + 1, none⟩ = some (.int .i64 ((rd_T32 y268 (ji54)).f1)) := hcc57 1 _ rfl; have hx57_2 : w70.cell? ⟨go53, ((ji54) : Int).toNat * 7 + 2, none⟩ = some (.int .i64 ((rd_T32 y268 (ji54)).f2)) := hcc57 2 _ rfl; have hx57_3 : w70.cell? ⟨go53, ((ji54) : Int).toNat * 7 + 3, none⟩ = some (.int .i64 ((rd_T32 y268 (ji54)).f3)) := hcc57 3 _ rfl; have hx57_4 : w70.cell? ⟨go53, ((ji54) : Int).toNat * 7 + 4, none⟩ = some (.int .i64 ((rd_T32 y268 (ji54)).f4)) := hcc57 4 _ rfl; have hx57_5 : w70.cell? ⟨go53, ((ji54) : Int).toNat * 7 + 5, none⟩ = some (.string ((rd_T32 y268 (ji54)).f5)) := hcc57 5 _ rfl; have hx57_6 : w70.cell? ⟨go53, ((ji54) : Int).toNat * 7 + 6, none⟩ = some (.int .i64 ((rd_T32 y268 (ji54)).f6)) := hcc57 6 _ rfl; have hf57_0 : w70.frozen? ⟨go53, ((ji54) : Int).toNat * 7, none⟩ = false := hfr57 0; have hf57_1 : w70.frozen? ⟨go53, ((ji54) : Int).toNat * 7 + 1, none⟩ = false := hfr57 1; have hf57_2 : w70.frozen? ⟨go53, ((ji54) : Int).toNat * 7 + 2, none⟩ = false := hfr57 2; have hf57_3 : w70.frozen? ⟨go53, ((ji54) : Int).toNat * 7 + 3, none⟩ = false := hfr57 3; have hf57_4 : w70.frozen? ⟨go53, ((ji54) : Int).toNat * 7 + 4, none⟩ = false := hfr57 4; have hf57_5 : w70.frozen? ⟨go53, ((ji54) : Int).toNat * 7 + 5, none⟩ = false := hfr57 5; have hf57_6 : w70.frozen? ⟨go53, ((ji54) : Int).toNat * 7 + 6, none⟩ = false := hfr57 6; clear hcl57 hcc57 hfr57 hM57; replace p57 := eq_true p57; replace q57 := eq_true q57; have HX71 := Aside0.mk (show Kd.R k32 32 w70 w.heap.size (fun _ => True) (.slice (some ⟨go53, 0, none⟩) t262.length co68) y268 from (rkw HO_15.out)); obtain ⟨ce71, hcl71, hM71, hcc71, hfr71⟩ := Kd.R_elem HX71.out z32 ((ji54) : Int) (of_decide_eq_true (by first | (with_reducible assumption) | assumption)) (by have h_ : ((ji54) : Int) < ((t262.length : Int) : Int) := of_decide_eq_true (by first | (with_reducible assumption) | assumption); first | exact h_ | (have e_ := (Kd.R_reads' HO_15.out).1; omega) | simpa using h_); obtain rfl := k32_openM hM71; have HP71 := Kd.R_seg HX71.out ((ji54) : Int) (of_decide_eq_true (by first | (with_reducible assumption) | assumption)) (by have h_ : ((ji54) : Int) < ((t262.length : Int) : Int) := of_decide_eq_true (by first | (with_reducible assumption) | assumption); first | exact h_ | (have e_ := (Kd.R_reads' HO_15.out).1; omega) | simpa using h_) (seg := [.int .i64 (Go.bits .xor .i64 ((rd_T32 y268 (ji54)).f3) a5)]) (j := 3) hcl71 hcc71 (show 4 ≤ 7 from by decide) (x' := (⟨(rd_T32 y268 (ji54)).f0, (rd_T32 y268 (ji54)).f1, (rd_T32 y268 (ji54)).f2, Go.bits .xor .i64 ((rd_T32 y268 (ji54)).f3) a5, (rd_T32 y268 (ji54)).f4, (rd_T32 y268 (ji54)).f5, (rd_T32 y268 (ji54)).f6⟩ : S32)) (k32_mkM _ _ _ (⟨(rd_T32 y268 (ji54)).f0, (rd_T32 y268 (ji54)).f1, (rd_T32 y268 (ji54)).f2, Go.bits .xor .i64 ((rd_T32 y268 (ji54)).f3) a5, (rd_T32 y268 (ji54)).f4, (rd_T32 y268 (ji54)).f5, (rd_T32 y268 (ji54)).f6⟩ : S32) ) (fun _ hk => hk); have hx71_3 := hcc71 3 _ rfl; (try simp only [show (k32).sz = 7 from rfl, Nat.mul_one, Nat.add_zero] at hx71_3); have hf71_3 := hfr71 3; (try simp only [show (k32).sz = 7 from rfl, Nat.mul_one, Nat.add_zero] at hf71_3); clear hcl71 hcc71 hfr71 hM71) | ((with_reducible refine gate_store (t := 3) (p := 140) rfl ?_); refine store_event (t := 3) (p := 140) (v := ?vo_w72) (w1 := (w70.setCell ⟨go53, ((ji54) : Int).toNat * 7 + 3, none⟩ (.int .i64 (Go.bits .xor .i64 ((rd_T32 y268 (ji54)).f3) a5)))) ?hg ?ho ?hn ?hr ?_; (case ho => rfl); (case hg => rfl); (case hn => rfl); (case hr => first | (go_simp; done) | (go_simp; rfl)); intro w72 hw; have hg : w70.grownBy w72 (some go53) := (by rw [hw]; exact HP71.2); have hp_ : Kd.R k32 32 w72 w.heap.size (fun _ => True) (.slice (some ⟨go53, 0, none⟩) t262.length co68) y270 := (by rw [hw, Ny270.out]; exact HP71.1); clear HP71; have n0_ := Aside0.mk (hp_); have n1_ := Aside0.mk ((by rw [hw]; exact below_set (HB.out) GB53.out : Below w.heap.size w w72)); clear HO_15; clear HB; have HO_15 := n0_; have HB := n1_; clear n0_ n1_; clear hg hw hp_) | ((with_reducible refine gate_callee (f := 18) rfl ?_); refine goesL_ (some 143) rfl rfl Tryd.func18 (by kernel_rfl) rfl #[.agg #[.int .i64 0], .slice (some ⟨go53, 0, none⟩) y270.length co68] rfl (by (try simp only [List.map_toArray, List.map_cons, List.map_nil]); first | done | (rw [show y270.length = t262.length from (Kd.R_reads' HO_15.out).1.symm] <;> rfl) | rfl | (simp only [List.length_drop, List.length_take]; rfl)) ?_; (with_reducible refine (modbus_Decode.calls k8 0 _ _ y270 t271 _ ?side1 ?side2 ?side3 A58.out).mono ?_); (case side1 => refine TabOk.below hT_ ?_; repeat (first | (with_reducible first | exact HB.out | apply below_alloc | apply pw_below_drewN | apply below_drew1) | exact HB.out)); (case side2 => repeat (first | exact (Kd.R_reads' HO_15.out).2.2 | (with_reducible refine Kd.C_alloc ?_ _) | (with_reducible refine Kd.C_drewN ?_ _) | (with_reducible refine Kd.C_drew ?_))); (case side3 => rw [show y270.length = t262.length from (Kd.R_reads' HO_15.out).1.symm]; exact (Kd.R_reads' HO_15.out).2.1); rintro e w73 ⟨v272, rfl, ho0, hb⟩; refine ⟨_, rfl, ?_⟩; have n0_ := Aside0.mk (Kd.R_elder' (rkw HO_15.out) (Kd.R_base ho0) hb); have n1_ := Aside0.mk (Kd.R_lower (Kd.R_new' ho0 (Kd.R_lt (rkw HO_15.out))) (below_size (hbw HB.out))); have n2_ := Aside0.mk (below_step (hbw HB.out) hb); clear HO_15; clear HB; have HO_15 := n0_; have HO273 := n1_; have HB := n2_; clear n0_ n1_ n2_; (try clear hb); (try clear hb2); (try clear hk); (try clear hi); (try clear ho0); obtain ⟨Ao74, co74, eo74⟩ := Kd.R_slice HO273.out; subst eo74))
                       go_ret
                       exact ⟨by first | rfl | (simp [errW_none, errW_some] <;> rfl) | (simp only [← hji54]; first | rfl | (simp [errW_none, errW_some] <;> rfl)) | (simp [*, errW_none, errW_some] <;> rfl), by repeat (first | (with_reducible first | exact HB.out | apply below_alloc | apply pw_below_drewN | apply below_drew1) | exact HB.out)⟩
                     ·rw [if_neg c56] at H
                      exact absurd H (by simp)
                    ·rw [if_neg c55] at H
                     exact absurd H (by simp)
                   ·rw [if_neg c52] at H
                    exact absurd H (by simp)
                  ·rw [if_neg c51] at H
                   exact absurd H (by simp)

/-- THE ONE PURE STATEMENT of signalbenchlaw30_ModbusDetects: yours. -/
def signalbenchlaw30_ModbusDetects.Pure : Prop := ∀ (a0 : ByteArray) (a1 : Int) (a2 : Int) (a3 : Int) (a4 : Int) (a5 : Int), a0.size ≤ 140737488351232 → (Lit.int .i64 a1).wf = true → (Lit.int .i64 a2).wf = true → (Lit.int .i64 a3).wf = true → (Lit.int .i64 a4).wf = true → (Lit.int .i64 a5).wf = true → ∃ k, signalbenchlaw30_ModbusDetects.f k a0 a1 a2 a3 a4 a5 = some true
theorem signalbenchlaw30_ModbusDetects.walk (P : signalbenchlaw30_ModbusDetects.Pure) (a0 : ByteArray) (a1 : Int) (a2 : Int) (a3 : Int) (a4 : Int) (a5 : Int) (w : World) (hT_ : TabOk w)  (w0_ : a0.size ≤ 140737488351232) (w1_ : (Lit.int .i64 a1).wf = true) (w2_ : (Lit.int .i64 a2).wf = true) (w3_ : (Lit.int .i64 a3).wf = true) (w4_ : (Lit.int .i64 a4).wf = true) (w5_ : (Lit.int .i64 a5).wf = true) :
  Calls Tryd.prog 6 #[.string a0, .int .i64 a1, .int .i64 a2, .int .i64 a3, .int .i64 a4, .int .i64 a5] w fun e w' => e = .returned (.bool true) ∧ Below w.heap.size w w' := by
 obtain ⟨k, h⟩ := P a0 a1 a2 a3 a4 a5 w0_ w1_ w2_ w3_ w4_ w5_
 refine (signalbenchlaw30_ModbusDetects.calls k a0 a1 a2 a3 a4 a5 true w hT_  h).mono ?_
 rintro e w' ⟨rfl, hd⟩
 exact ⟨rfl, hd⟩

end Go.Proofs.YtmalhgidhieamaaDoor.PModbusDetects
