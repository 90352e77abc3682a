-- Written by a program of this session (wip/tools/pr.py), which calls the kit's print with changes of its own.
import Derived.Test.YtmalhgidhieamaaDoorPModbusGapsx0
import Derived.Test.YtmalhgidhieamaaDoorPModbusGapsx3
import Derived.Test.YtmalhgidhieamaaDoorPModbusGapsx8
import Derived.Test.YtmalhgidhieamaaDoorPModbusGapsx11
namespace Go.Proofs.YtmalhgidhieamaaDoor.PModbusGaps
open Go.RowKit Go.Proofs.YtmalhgidhieamaaDoorW.PrintWords Go.Proofs.YtmalhgidhieamaaDoorW.PrintLast Go.Proofs.YtmalhgidhieamaaDoorW.PrintMore
attribute [local go_sem] max2_int min2_int max_two min_two max_three min_three max_four min_four   -- for this text's walks alone
set_option linter.unusedVariables false
set_option linter.unusedSimpArgs false

/-! ### signalbenchlaw30_ModbusGaps: function 7 -/
mutual
def signalbenchlaw30_ModbusGaps.j0 : Nat → ByteArray → List Int → Int → Option (Bool)
 | 0, _, _, _ => none
 | k + 1, x1, x2, x252000 => if (x1.size : Int) > 300 then (signalbenchlaw30_ModbusGaps.j1 k x1 x2 true x252000) else (if (x1.size : Int) < 1 then (signalbenchlaw30_ModbusGaps.j1 k x1 x2 true x252000) else (if (x2.length : Int) > 300 then (signalbenchlaw30_ModbusGaps.j1 k x1 x2 true x252000) else ((modbus_Check.f x252000).bind fun t253 => (if t253 = 0 then (if x252000 < 0 then (signalbenchlaw30_ModbusGaps.j1 k x1 x2 true x252000) else (signalbenchlaw30_ModbusGaps.j1 k x1 x2 (decide (x252000 > 1048576)) x252000)) else (signalbenchlaw30_ModbusGaps.j1 k x1 x2 true x252000)))))
def signalbenchlaw30_ModbusGaps.j1 : Nat → ByteArray → List Int → Bool → Int → Option (Bool)
 | 0, _, _, _, _ => none
 | k + 1, x1, x2, x43, x252000 => if x43 = true then (some true) else (signalbenchlaw30_ModbusGaps.j2 k x1 x2 x252000)
def signalbenchlaw30_ModbusGaps.j2 : Nat → ByteArray → List Int → Int → Option (Bool)
 | 0, _, _, _ => none
 | k + 1, x1, x2, x252000 => signalbenchlaw30_ModbusGaps.l0 k x1 x2 (([] : List (S32))) (([] : List Int)) 0 0 x252000
def signalbenchlaw30_ModbusGaps.l0 : Nat → ByteArray → List Int → List (S32) → List Int → Int → Int → Int → Option (Bool)
 | 0, _, _, _, _, _, _, _ => none
 | k + 1, x1, x2, x7, x8, x9, x10, x252000 => if x10 < (x1.size : Int) then (if x10 < (x2.length : Int) then (if 0 ≤ x10 then (if (rd x2 x10) ≥ 0 then (signalbenchlaw30_ModbusGaps.j4 k x1 x2 x7 x8 x9 x10 0 (decide ((rd x2 x10) ≤ 2097152)) x252000) else (signalbenchlaw30_ModbusGaps.j4 k x1 x2 x7 x8 x9 x10 0 false x252000)) else (none)) else (signalbenchlaw30_ModbusGaps.j4 k x1 x2 x7 x8 x9 x10 0 false x252000)) else ((modbus_Decode.f k x252000 x7).bind fun t293 => (if (t293.length : Int) = (x8.length : Int) then (signalbenchlaw30_ModbusGaps.j5 k x8 x9 t293) else (some false)))
def signalbenchlaw30_ModbusGaps.j4 : Nat → ByteArray → List Int → List (S32) → List Int → Int → Int → Int → Bool → Int → Option (Bool)
 | 0, _, _, _, _, _, _, _, _, _ => none
 | k + 1, x1, x2, x7, x8, x9, x10, x11, x69, x252000 => if x69 = true then (if 0 ≤ x10 then (if x10 < (x2.length : Int) then (if x10 = 0 then (if x8.length < 17592186044416 then (if x10 < (x1.size : Int) then (if x7.length < 2199023255552 then (signalbenchlaw30_ModbusGaps.l0 k x1 x2 (x7 ++ [(⟨3, wrap64 (x9 + (rd x2 x10)), wrap64 ((wrap64 (x9 + (rd x2 x10))) + 1), wrap64 (bt x1 x10), 0, (⟨#[]⟩ : ByteArray), 0⟩ : S32)]) (x8 ++ [wrap64 (x9 + (rd x2 x10))]) (wrap64 ((wrap64 (x9 + (rd x2 x10))) + 1)) (wrap64 (x10 + 1)) x252000) else (none)) else (none)) else (none)) else (if (rd x2 x10) > x252000 then (if x8.length < 17592186044416 then (if x10 < (x1.size : Int) then (if x7.length < 2199023255552 then (signalbenchlaw30_ModbusGaps.l0 k x1 x2 (x7 ++ [(⟨3, wrap64 (x9 + (rd x2 x10)), wrap64 ((wrap64 (x9 + (rd x2 x10))) + 1), wrap64 (bt x1 x10), 0, (⟨#[]⟩ : ByteArray), 0⟩ : S32)]) (x8 ++ [wrap64 (x9 + (rd x2 x10))]) (wrap64 ((wrap64 (x9 + (rd x2 x10))) + 1)) (wrap64 (x10 + 1)) x252000) else (none)) else (none)) else (none)) else (if x10 < (x1.size : Int) then (if x7.length < 2199023255552 then (signalbenchlaw30_ModbusGaps.l0 k x1 x2 (x7 ++ [(⟨3, wrap64 (x9 + (rd x2 x10)), wrap64 ((wrap64 (x9 + (rd x2 x10))) + 1), wrap64 (bt x1 x10), 0, (⟨#[]⟩ : ByteArray), 0⟩ : S32)]) x8 (wrap64 ((wrap64 (x9 + (rd x2 x10))) + 1)) (wrap64 (x10 + 1)) x252000) else (none)) else (none)))) else (none)) else (none)) else (if x10 = 0 then (if x8.length < 17592186044416 then (if 0 ≤ x10 then (if x10 < (x1.size : Int) then (if x7.length < 2199023255552 then (signalbenchlaw30_ModbusGaps.l0 k x1 x2 (x7 ++ [(⟨3, wrap64 (x9 + x11), wrap64 ((wrap64 (x9 + x11)) + 1), wrap64 (bt x1 x10), 0, (⟨#[]⟩ : ByteArray), 0⟩ : S32)]) (x8 ++ [wrap64 (x9 + x11)]) (wrap64 ((wrap64 (x9 + x11)) + 1)) (wrap64 (x10 + 1)) x252000) else (none)) else (none)) else (none)) else (none)) else (if x11 > x252000 then (if x8.length < 17592186044416 then (if 0 ≤ x10 then (if x10 < (x1.size : Int) then (if x7.length < 2199023255552 then (signalbenchlaw30_ModbusGaps.l0 k x1 x2 (x7 ++ [(⟨3, wrap64 (x9 + x11), wrap64 ((wrap64 (x9 + x11)) + 1), wrap64 (bt x1 x10), 0, (⟨#[]⟩ : ByteArray), 0⟩ : S32)]) (x8 ++ [wrap64 (x9 + x11)]) (wrap64 ((wrap64 (x9 + x11)) + 1)) (wrap64 (x10 + 1)) x252000) else (none)) else (none)) else (none)) else (none)) else (if 0 ≤ x10 then (if x10 < (x1.size : Int) then (if x7.length < 2199023255552 then (signalbenchlaw30_ModbusGaps.l0 k x1 x2 (x7 ++ [(⟨3, wrap64 (x9 + x11), wrap64 ((wrap64 (x9 + x11)) + 1), wrap64 (bt x1 x10), 0, (⟨#[]⟩ : ByteArray), 0⟩ : S32)]) x8 (wrap64 ((wrap64 (x9 + x11)) + 1)) (wrap64 (x10 + 1)) x252000) else (none)) else (none)) else (none))))
def signalbenchlaw30_ModbusGaps.j5 : Nat → List Int → Int → List (S32) → Option (Bool)
 | 0, _, _, _ => none
 | k + 1, x8, x9, x12 => signalbenchlaw30_ModbusGaps.l1 k x8 x9 x12 0
def signalbenchlaw30_ModbusGaps.l1 : Nat → List Int → Int → List (S32) → Int → Option (Bool)
 | 0, _, _, _, _ => none
 | k + 1, x8, x9, x12, x13 => if x13 < (x12.length : Int) then (if 0 ≤ x13 then (if x13 < (x8.length : Int) then (if ((rd_T32 x12 x13).f1) = (rd x8 x13) then (signalbenchlaw30_ModbusGaps.l1 k x8 x9 x12 (wrap64 (x13 + 1))) else (some false)) else (none)) else (none)) else (if 0 ≤ (wrap64 ((x12.length : Int) - 1)) then (if (wrap64 ((x12.length : Int) - 1)) < (x12.length : Int) then (some (((rd_T32 x12 (wrap64 ((x12.length : Int) - 1))).f2) == x9)) else (none)) else (none))
end
def signalbenchlaw30_ModbusGaps.f (k : Nat) (a0_0 : Int) (a1 : ByteArray) (l2 : List Int) : Option (Bool) := (signalbenchlaw30_lives.f k).bind fun t252 => (if t252 = true then (signalbenchlaw30_ModbusGaps.j0 k a1 l2 a0_0) else (some false))
theorem signalbenchlaw30_ModbusGaps.mono_l : ∀ k, (∀ y0 y1 y2, LeO (signalbenchlaw30_ModbusGaps.j0 k y0 y1 y2) (signalbenchlaw30_ModbusGaps.j0 (k + 1) y0 y1 y2)) ∧ (∀ y0 y1 y2 y3, LeO (signalbenchlaw30_ModbusGaps.j1 k y0 y1 y2 y3) (signalbenchlaw30_ModbusGaps.j1 (k + 1) y0 y1 y2 y3)) ∧ (∀ y0 y1 y2, LeO (signalbenchlaw30_ModbusGaps.j2 k y0 y1 y2) (signalbenchlaw30_ModbusGaps.j2 (k + 1) y0 y1 y2)) ∧ (∀ y0 y1 y2 y3 y4 y5 y6, LeO (signalbenchlaw30_ModbusGaps.l0 k y0 y1 y2 y3 y4 y5 y6) (signalbenchlaw30_ModbusGaps.l0 (k + 1) y0 y1 y2 y3 y4 y5 y6)) ∧ (∀ y0 y1 y2 y3 y4 y5 y6 y7 y8, LeO (signalbenchlaw30_ModbusGaps.j4 k y0 y1 y2 y3 y4 y5 y6 y7 y8) (signalbenchlaw30_ModbusGaps.j4 (k + 1) y0 y1 y2 y3 y4 y5 y6 y7 y8)) ∧ (∀ y0 y1 y2, LeO (signalbenchlaw30_ModbusGaps.j5 k y0 y1 y2) (signalbenchlaw30_ModbusGaps.j5 (k + 1) y0 y1 y2)) ∧ (∀ y0 y1 y2 y3, LeO (signalbenchlaw30_ModbusGaps.l1 k y0 y1 y2 y3) (signalbenchlaw30_ModbusGaps.l1 (k + 1) y0 y1 y2 y3))
 | 0 => ⟨fun _ _ _ r h => by simp [signalbenchlaw30_ModbusGaps.j0] at h, fun _ _ _ _ r h => by simp [signalbenchlaw30_ModbusGaps.j1] at h, fun _ _ _ r h => by simp [signalbenchlaw30_ModbusGaps.j2] at h, fun _ _ _ _ _ _ _ r h => by simp [signalbenchlaw30_ModbusGaps.l0] at h, fun _ _ _ _ _ _ _ _ _ r h => by simp [signalbenchlaw30_ModbusGaps.j4] at h, fun _ _ _ r h => by simp [signalbenchlaw30_ModbusGaps.j5] at h, fun _ _ _ _ r h => by simp [signalbenchlaw30_ModbusGaps.l1] at h⟩
 | k + 1 => by
  obtain ⟨ih0, ih1, ih2, ih3, ih4, ih5, ih6⟩ := signalbenchlaw30_ModbusGaps.mono_l k
  refine ⟨?_, ?_, ?_, ?_, ?_, ?_, ?_⟩
  ·intro y0 y1 y2
   unfold signalbenchlaw30_ModbusGaps.j0
   repeat' first
   | (with_reducible exact ih0 _ _ _)
   | (with_reducible exact ih1 _ _ _ _)
   | (with_reducible exact ih2 _ _ _)
   | (with_reducible exact ih3 _ _ _ _ _ _ _)
   | (with_reducible exact ih4 _ _ _ _ _ _ _ _ _)
   | (with_reducible exact ih5 _ _ _)
   | (with_reducible exact ih6 _ _ _ _)
   | (with_reducible exact modbus_Decode.mono _ _ _)
   | (with_reducible exact signalbenchlaw30_lives.mono _)
   | (with_reducible exact LeO.refl _)
   | (with_reducible exact LeO.none _)
   | (with_reducible refine LeO.ite ?_ ?_)
   | (with_reducible refine LeO.bind ?_ (fun _ => ?_))
   | exact ih0 _ _ _
   | exact ih1 _ _ _ _
   | exact ih2 _ _ _
   | exact ih3 _ _ _ _ _ _ _
   | exact ih4 _ _ _ _ _ _ _ _ _
   | exact ih5 _ _ _
   | exact ih6 _ _ _ _
   | exact modbus_Decode.mono _ _ _
   | exact signalbenchlaw30_lives.mono _
   | exact LeO.none _
   | refine LeO.ite ?_ ?_
   | refine LeO.bind ?_ (fun _ => ?_)
  ·intro y0 y1 y2 y3
   unfold signalbenchlaw30_ModbusGaps.j1
   repeat' first
   | (with_reducible exact ih0 _ _ _)
   | (with_reducible exact ih1 _ _ _ _)
   | (with_reducible exact ih2 _ _ _)
   | (with_reducible exact ih3 _ _ _ _ _ _ _)
   | (with_reducible exact ih4 _ _ _ _ _ _ _ _ _)
   | (with_reducible exact ih5 _ _ _)
   | (with_reducible exact ih6 _ _ _ _)
   | (with_reducible exact modbus_Decode.mono _ _ _)
   | (with_reducible exact signalbenchlaw30_lives.mono _)
   | (with_reducible exact LeO.refl _)
   | (with_reducible exact LeO.none _)
   | (with_reducible refine LeO.ite ?_ ?_)
   | (with_reducible refine LeO.bind ?_ (fun _ => ?_))
   | exact ih0 _ _ _
   | exact ih1 _ _ _ _
   | exact ih2 _ _ _
   | exact ih3 _ _ _ _ _ _ _
   | exact ih4 _ _ _ _ _ _ _ _ _
   | exact ih5 _ _ _
   | exact ih6 _ _ _ _
   | exact modbus_Decode.mono _ _ _
   | exact signalbenchlaw30_lives.mono _
   | exact LeO.none _
   | refine LeO.ite ?_ ?_
   | refine LeO.bind ?_ (fun _ => ?_)
  ·intro y0 y1 y2
   unfold signalbenchlaw30_ModbusGaps.j2
   repeat' first
   | (with_reducible exact ih0 _ _ _)
   | (with_reducible exact ih1 _ _ _ _)
   | (with_reducible exact ih2 _ _ _)
   | (with_reducible exact ih3 _ _ _ _ _ _ _)
   | (with_reducible exact ih4 _ _ _ _ _ _ _ _ _)
   | (with_reducible exact ih5 _ _ _)
   | (with_reducible exact ih6 _ _ _ _)
   | (with_reducible exact modbus_Decode.mono _ _ _)
   | (with_reducible exact signalbenchlaw30_lives.mono _)
   | (with_reducible exact LeO.refl _)
   | (with_reducible exact LeO.none _)
   | (with_reducible refine LeO.ite ?_ ?_)
   | (with_reducible refine LeO.bind ?_ (fun _ => ?_))
   | exact ih0 _ _ _
   | exact ih1 _ _ _ _
   | exact ih2 _ _ _
   | exact ih3 _ _ _ _ _ _ _
   | exact ih4 _ _ _ _ _ _ _ _ _
   | exact ih5 _ _ _
   | exact ih6 _ _ _ _
   | exact modbus_Decode.mono _ _ _
   | exact signalbenchlaw30_lives.mono _
   | exact LeO.none _
   | refine LeO.ite ?_ ?_
   | refine LeO.bind ?_ (fun _ => ?_)
  ·intro y0 y1 y2 y3 y4 y5 y6
   unfold signalbenchlaw30_ModbusGaps.l0
   repeat' first
   | (with_reducible exact ih0 _ _ _)
   | (with_reducible exact ih1 _ _ _ _)
   | (with_reducible exact ih2 _ _ _)
   | (with_reducible exact ih3 _ _ _ _ _ _ _)
   | (with_reducible exact ih4 _ _ _ _ _ _ _ _ _)
   | (with_reducible exact ih5 _ _ _)
   | (with_reducible exact ih6 _ _ _ _)
   | (with_reducible exact modbus_Decode.mono _ _ _)
   | (with_reducible exact signalbenchlaw30_lives.mono _)
   | (with_reducible exact LeO.refl _)
   | (with_reducible exact LeO.none _)
   | (with_reducible refine LeO.ite ?_ ?_)
   | (with_reducible refine LeO.bind ?_ (fun _ => ?_))
   | exact ih0 _ _ _
   | exact ih1 _ _ _ _
   | exact ih2 _ _ _
   | exact ih3 _ _ _ _ _ _ _
   | exact ih4 _ _ _ _ _ _ _ _ _
   | exact ih5 _ _ _
   | exact ih6 _ _ _ _
   | exact modbus_Decode.mono _ _ _
   | exact signalbenchlaw30_lives.mono _
   | exact LeO.none _
   | refine LeO.ite ?_ ?_
   | refine LeO.bind ?_ (fun _ => ?_)
  ·intro y0 y1 y2 y3 y4 y5 y6 y7 y8
   unfold signalbenchlaw30_ModbusGaps.j4
   repeat' first
   | (with_reducible exact ih0 _ _ _)
   | (with_reducible exact ih1 _ _ _ _)
   | (with_reducible exact ih2 _ _ _)
   | (with_reducible exact ih3 _ _ _ _ _ _ _)
   | (with_reducible exact ih4 _ _ _ _ _ _ _ _ _)
   | (with_reducible exact ih5 _ _ _)
   | (with_reducible exact ih6 _ _ _ _)
   | (with_reducible exact modbus_Decode.mono _ _ _)
   | (with_reducible exact signalbenchlaw30_lives.mono _)
   | (with_reducible exact LeO.refl _)
   | (with_reducible exact LeO.none _)
   | (with_reducible refine LeO.ite ?_ ?_)
   | (with_reducible refine LeO.bind ?_ (fun _ => ?_))
   | exact ih0 _ _ _
   | exact ih1 _ _ _ _
   | exact ih2 _ _ _
   | exact ih3 _ _ _ _ _ _ _
   | exact ih4 _ _ _ _ _ _ _ _ _
   | exact ih5 _ _ _
   | exact ih6 _ _ _ _
   | exact modbus_Decode.mono _ _ _
   | exact signalbenchlaw30_lives.mono _
   | exact LeO.none _
   | refine LeO.ite ?_ ?_
   | refine LeO.bind ?_ (fun _ => ?_)
  ·intro y0 y1 y2
   unfold signalbenchlaw30_ModbusGaps.j5
   repeat' first
   | (with_reducible exact ih0 _ _ _)
   | (with_reducible exact ih1 _ _ _ _)
   | (with_reducible exact ih2 _ _ _)
   | (with_reducible exact ih3 _ _ _ _ _ _ _)
   | (with_reducible exact ih4 _ _ _ _ _ _ _ _ _)
   | (with_reducible exact ih5 _ _ _)
   | (with_reducible exact ih6 _ _ _ _)
   | (with_reducible exact modbus_Decode.mono _ _ _)
   | (with_reducible exact signalbenchlaw30_lives.mono _)
   | (with_reducible exact LeO.refl _)
   | (with_reducible exact LeO.none _)
   | (with_reducible refine LeO.ite ?_ ?_)
   | (with_reducible refine LeO.bind ?_ (fun _ => ?_))
   | exact ih0 _ _ _
   | exact ih1 _ _ _ _
   | exact ih2 _ _ _
   | exact ih3 _ _ _ _ _ _ _
   | exact ih4 _ _ _ _ _ _ _ _ _
   | exact ih5 _ _ _
   | exact ih6 _ _ _ _
   | exact modbus_Decode.mono _ _ _
   | exact signalbenchlaw30_lives.mono _
   | exact LeO.none _
   | refine LeO.ite ?_ ?_
   | refine LeO.bind ?_ (fun _ => ?_)
  ·intro y0 y1 y2 y3
   unfold signalbenchlaw30_ModbusGaps.l1
   repeat' first
   | (with_reducible exact ih0 _ _ _)
   | (with_reducible exact ih1 _ _ _ _)
   | (with_reducible exact ih2 _ _ _)
   | (with_reducible exact ih3 _ _ _ _ _ _ _)
   | (with_reducible exact ih4 _ _ _ _ _ _ _ _ _)
   | (with_reducible exact ih5 _ _ _)
   | (with_reducible exact ih6 _ _ _ _)
   | (with_reducible exact modbus_Decode.mono _ _ _)
   | (with_reducible exact signalbenchlaw30_lives.mono _)
   | (with_reducible exact LeO.refl _)
   | (with_reducible exact LeO.none _)
   | (with_reducible refine LeO.ite ?_ ?_)
   | (with_reducible refine LeO.bind ?_ (fun _ => ?_))
   | exact ih0 _ _ _
   | exact ih1 _ _ _ _
   | exact ih2 _ _ _
   | exact ih3 _ _ _ _ _ _ _
   | exact ih4 _ _ _ _ _ _ _ _ _
   | exact ih5 _ _ _
   | exact ih6 _ _ _ _
   | exact modbus_Decode.mono _ _ _
   | exact signalbenchlaw30_lives.mono _
   | exact LeO.none _
   | refine LeO.ite ?_ ?_
   | refine LeO.bind ?_ (fun _ => ?_)
theorem signalbenchlaw30_ModbusGaps.mono : ∀ a0 a1 a2 k, LeO (signalbenchlaw30_ModbusGaps.f k a0 a1 a2) (signalbenchlaw30_ModbusGaps.f (k + 1) a0 a1 a2) := by
 intro a0 a1 a2 k
 obtain ⟨ih0, ih1, ih2, ih3, ih4, ih5, ih6⟩ := signalbenchlaw30_ModbusGaps.mono_l k
 unfold signalbenchlaw30_ModbusGaps.f
 repeat' first
   | (with_reducible exact ih0 _ _ _)
   | (with_reducible exact ih1 _ _ _ _)
   | (with_reducible exact ih2 _ _ _)
   | (with_reducible exact ih3 _ _ _ _ _ _ _)
   | (with_reducible exact ih4 _ _ _ _ _ _ _ _ _)
   | (with_reducible exact ih5 _ _ _)
   | (with_reducible exact ih6 _ _ _ _)
   | (with_reducible exact modbus_Decode.mono _ _ _)
   | (with_reducible exact signalbenchlaw30_lives.mono _)
   | (with_reducible exact LeO.refl _)
   | (with_reducible exact LeO.none _)
   | (with_reducible refine LeO.ite ?_ ?_)
   | (with_reducible refine LeO.bind ?_ (fun _ => ?_))
   | exact ih0 _ _ _
   | exact ih1 _ _ _ _
   | exact ih2 _ _ _
   | exact ih3 _ _ _ _ _ _ _
   | exact ih4 _ _ _ _ _ _ _ _ _
   | exact ih5 _ _ _
   | exact ih6 _ _ _ _
   | exact modbus_Decode.mono _ _ _
   | exact signalbenchlaw30_lives.mono _
   | exact LeO.none _
   | refine LeO.ite ?_ ?_
   | refine LeO.bind ?_ (fun _ => ?_)
set_option maxHeartbeats 8000000 in
set_option maxRecDepth 100000 in
theorem signalbenchlaw30_ModbusGaps.calls (k : Nat) (a0_0 : Int) (a1 : ByteArray) (A2 : Option Addr) (c2 : Nat) (l2 : List Int) (r : Bool) (w : World) (hT_ : TabOk w) (hr2 : Kd.C (Kd.int .i64) w A2 l2.length l2) (hc2 : l2.length ≤ c2) (h : signalbenchlaw30_ModbusGaps.f k a0_0 a1 l2 = some r) :
  Calls Tryd.prog 7 #[.agg #[.int .i64 a0_0], .string a1, .slice A2 l2.length c2] w fun e w' => e = .returned (.bool r) ∧ Below w.heap.size w w' := by
 have hu23 := Tryd.underlying23
 have hu32 := Tryd.underlying32
 have HR2 := Aside0.mk hr2
 have HC2 := Aside0.mk hc2
 clear hr2 hc2
 have HB := Aside0.mk (Below.refl w.heap.size w)
 have H : ((signalbenchlaw30_lives.f k).bind fun t252 => (if t252 = true then (signalbenchlaw30_ModbusGaps.j0 k a1 l2 a0_0) else (some false))) = some r := h
 clear h
 replace H := Option.bind_eq_some_iff.mp H
 obtain ⟨t252, A40, H⟩ := H
 replace H : (if t252 = true then (signalbenchlaw30_ModbusGaps.j0 k a1 l2 a0_0) else (some false)) = some r := H
 have A4 := Aside0.mk A40
 clear A40
 have HC5 := Aside0.mk H
 clear H
 go_enter Tryd.func7, Tryd.ntmps7
 go_upto_if 15 with (first | ((with_reducible refine gate_dst (N := 3) rfl ?_); (try (refine gate_guard (by first | rfl | (go_simp; done)) ?_; dsimp only)); refine box_event ?hg (N := 3) ?hd (cs := #[.int .i64 a0_0]) (t := 23) ?hr ?_; (case hd => rfl); (case hg => rfl); (case hr => first | (go_simp; done) | (go_simp; rfl)); intro gb251 hg w6 hbox hb; have n0_ := Aside0.mk (below_step (hbw HB.out) hb); have n1_ := Aside0.mk (hbox); have n2_ := Aside0.mk ((by rw [hg]; exact (below_size (hbw HB.out)) : w.heap.size ≤ gb251)); have n3_ := Aside0.mk ((by rw [hg]; exact (below_size (hbw HB.out)) : w.heap.size ≤ gb251)); clear HB; have HB := n0_; have BK251 := n1_; have GW251 := n2_; have GE251 := n3_; clear n0_ n1_ n2_ n3_; clear hb hbox hg) | (go_at_call 8; (with_reducible refine (signalbenchlaw30_lives.calls k  t252 _ ?side1 A4.out).mono ?_); (case side1 => refine TabOk.below hT_ ?_; repeat (first | (with_reducible first | exact HB.out | apply below_alloc | apply pw_below_drewN | apply below_drew1 | refine below_set ?_ GE251.out) | exact HB.out)); rintro e w7 ⟨rfl, hb⟩; have n0_ := Aside0.mk (blkb BK251.out hb); have n1_ := Aside0.mk (below_step (hbw HB.out) hb); clear BK251; clear HB; have BK251 := n0_; have HB := n1_; clear n0_ n1_; (try clear hb); (try clear hb2); (try clear hk); (try clear hi)))
 repeat (go_quiet (first | ((with_reducible refine gate_dst (N := 3) rfl ?_); (try (refine gate_guard (by first | rfl | (go_simp; done)) ?_; dsimp only)); refine box_event ?hg (N := 3) ?hd (cs := #[.int .i64 a0_0]) (t := 23) ?hr ?_; (case hd => rfl); (case hg => rfl); (case hr => first | (go_simp; done) | (go_simp; rfl)); intro gb251 hg w6 hbox hb; have n0_ := Aside0.mk (below_step (hbw HB.out) hb); have n1_ := Aside0.mk (hbox); have n2_ := Aside0.mk ((by rw [hg]; exact (below_size (hbw HB.out)) : w.heap.size ≤ gb251)); have n3_ := Aside0.mk ((by rw [hg]; exact (below_size (hbw HB.out)) : w.heap.size ≤ gb251)); clear HB; have HB := n0_; have BK251 := n1_; have GW251 := n2_; have GE251 := n3_; clear n0_ n1_ n2_ n3_; clear hb hbox hg) | (go_at_call 8; (with_reducible refine (signalbenchlaw30_lives.calls k  t252 _ ?side1 A4.out).mono ?_); (case side1 => refine TabOk.below hT_ ?_; repeat (first | (with_reducible first | exact HB.out | apply below_alloc | apply pw_below_drewN | apply below_drew1 | refine below_set ?_ GE251.out) | exact HB.out)); rintro e w7 ⟨rfl, hb⟩; have n0_ := Aside0.mk (blkb BK251.out hb); have n1_ := Aside0.mk (below_step (hbw HB.out) hb); clear BK251; clear HB; have BK251 := n0_; have HB := n1_; clear n0_ n1_; (try clear hb); (try clear hb2); (try clear hk); (try clear hi))); go_upto_if 15 with (first | ((with_reducible refine gate_dst (N := 3) rfl ?_); (try (refine gate_guard (by first | rfl | (go_simp; done)) ?_; dsimp only)); refine box_event ?hg (N := 3) ?hd (cs := #[.int .i64 a0_0]) (t := 23) ?hr ?_; (case hd => rfl); (case hg => rfl); (case hr => first | (go_simp; done) | (go_simp; rfl)); intro gb251 hg w6 hbox hb; have n0_ := Aside0.mk (below_step (hbw HB.out) hb); have n1_ := Aside0.mk (hbox); have n2_ := Aside0.mk ((by rw [hg]; exact (below_size (hbw HB.out)) : w.heap.size ≤ gb251)); have n3_ := Aside0.mk ((by rw [hg]; exact (below_size (hbw HB.out)) : w.heap.size ≤ gb251)); clear HB; have HB := n0_; have BK251 := n1_; have GW251 := n2_; have GE251 := n3_; clear n0_ n1_ n2_ n3_; clear hb hbox hg) | (go_at_call 8; (with_reducible refine (signalbenchlaw30_lives.calls k  t252 _ ?side1 A4.out).mono ?_); (case side1 => refine TabOk.below hT_ ?_; repeat (first | (with_reducible first | exact HB.out | apply below_alloc | apply pw_below_drewN | apply below_drew1 | refine below_set ?_ GE251.out) | exact HB.out)); rintro e w7 ⟨rfl, hb⟩; have n0_ := Aside0.mk (blkb BK251.out hb); have n1_ := Aside0.mk (below_step (hbw HB.out) hb); clear BK251; clear HB; have BK251 := n0_; have HB := n1_; clear n0_ n1_; (try clear hb); (try clear hb2); (try clear hk); (try clear hi))))
 (try simp only [Act.put, List.setIfInBounds_toArray, List.set_cons_zero, List.set_cons_succ])
 go_cut [] (fun wc => ∃ (kq : Nat), Aside0 (signalbenchlaw30_ModbusGaps.j0 kq a1 l2 a0_0 = some r) ∧ Aside0 (kq ≤ k) ∧ Aside0 (wc.heap[gb251]? = some (.cells #[.int .i64 a0_0] 23 (0, 0))) ∧ Aside0 (Below w.heap.size w wc))
 case first =>
  have H := HC5.out
  clear HC5
  by_cases c8 : t252 = true
  ·subst c8
   have H1 : (signalbenchlaw30_ModbusGaps.j0 k a1 l2 a0_0) = some r := by rw [if_pos rfl] at H; exact H
   clear H
   have H := H1
   clear H1
   have H' := Aside0.mk H
   clear H
   go_wp2
   repeat (go_quiet (fail); try go_wp2)
   go_meet
   case rel => exact ⟨_, H', ⟨by first | omega | exact Nat.le_refl _⟩, ⟨by (with_reducible repeat (first | refine blk_drewN ?_ _ | refine blk_drew ?_ | refine blk_alloc ?_ _)); exact BK251.out⟩, ⟨by repeat (first | (with_reducible first | exact HB.out | apply below_alloc | apply pw_below_drewN | apply below_drew1 | refine below_set ?_ GE251.out) | exact HB.out)⟩⟩
  ·replace c8 := Bool.eq_false_iff.mpr c8
   subst c8
   have H1 : (some false) = some r := by rw [if_neg (show ¬ (false = true) by decide)] at H; exact H
   clear H
   have H := H1
   clear H1
   obtain rfl := Option.some.inj H
   go_wp2
   repeat (go_quiet (fail); try go_wp2)
   go_ret
   exact ⟨by first | rfl | (simp [errW_none, errW_some] <;> rfl) | (simp [*, errW_none, errW_some] <;> rfl), by repeat (first | (with_reducible first | exact HB.out | apply below_alloc | apply pw_below_drewN | apply below_drew1 | refine below_set ?_ GE251.out) | exact HB.out)⟩
 case rest =>
  clear HC5
  try clear c2
  try clear p2
  try clear c7
  try clear c8
  obtain ⟨kq, HA, HJ4, BK251, HB⟩ := hcut
  cases kq with
  | zero => exact absurd HA.out (by simp [signalbenchlaw30_ModbusGaps.j0])
  | succ kj4 =>
   have H := HA.out
   clear HA
   simp only [signalbenchlaw30_ModbusGaps.j0] at H
   have HC9 := Aside0.mk H
   clear H
   go_upto_region 3 with (fail)
   repeat (go_quiet (fail); go_upto_region 3 with (fail))
   go_cut [43] (fun v43 wc => ∃ (kq : Nat) (x43_8 : Bool), v43 = .bool x43_8 ∧ Aside0 (signalbenchlaw30_ModbusGaps.j1 kq a1 l2 x43_8 a0_0 = some r) ∧ Aside0 (kq ≤ kj4) ∧ Aside0 (wc.heap[gb251]? = some (.cells #[.int .i64 a0_0] 23 (0, 0))) ∧ Aside0 (Below w.heap.size w wc))
   case first =>
    have H := HC9.out
    clear HC9
    by_cases c10 : (a1.size : Int) > 300
    ·rw [if_pos c10] at H
     have c10b0 : decide (300 < (a1.size : Int)) = true := decide_eq_true c10
     have c10b1 : decide (300 < a1.size) = true := decide_eq_true (by omega)
     clear c10
     (first | rw [c10b0] | (simp only [i64_w, i32_w]; rw [c10b0]) | skip)
     have H' := Aside0.mk H
     clear H
     go_wp2
     repeat (go_quiet (fail); try go_wp2)
     go_meet
     case rel => exact ⟨_, (true), (by first | rfl | (simp; done) | (simp [*]; done)), H', ⟨by have := HJ4.out; first | omega | exact Nat.le_refl _⟩, ⟨by (with_reducible repeat (first | refine blk_drewN ?_ _ | refine blk_drew ?_ | refine blk_alloc ?_ _)); exact BK251.out⟩, ⟨by repeat (first | (with_reducible first | exact HB.out | apply below_alloc | apply pw_below_drewN | apply below_drew1 | refine below_set ?_ GE251.out) | exact HB.out)⟩⟩
    ·rw [if_neg c10] at H
     have c10b0 : decide (300 < (a1.size : Int)) = false := decide_eq_false c10
     have c10b1 : decide (300 < a1.size) = false := decide_eq_false (by omega)
     clear c10
     (first | rw [c10b0] | (simp only [i64_w, i32_w]; rw [c10b0]) | skip)
     by_cases c11 : (a1.size : Int) < 1
     ·rw [if_pos c11] at H
      have c11b0 : decide ((a1.size : Int) < 1) = true := decide_eq_true c11
      have c11b1 : decide (a1.size < 1) = true := decide_eq_true (by omega)
      clear c11
      have H' := Aside0.mk H
      clear H
      go_wp2
      repeat (go_quiet (fail); try go_wp2)
      go_meet
      case rel => exact ⟨_, (true), (by first | rfl | (simp; done) | (simp [*]; done)), H', ⟨by have := HJ4.out; first | omega | exact Nat.le_refl _⟩, ⟨by (with_reducible repeat (first | refine blk_drewN ?_ _ | refine blk_drew ?_ | refine blk_alloc ?_ _)); exact BK251.out⟩, ⟨by repeat (first | (with_reducible first | exact HB.out | apply below_alloc | apply pw_below_drewN | apply below_drew1 | refine below_set ?_ GE251.out) | exact HB.out)⟩⟩
     ·rw [if_neg c11] at H
      have c11b0 : decide ((a1.size : Int) < 1) = false := decide_eq_false c11
      have c11b1 : decide (a1.size < 1) = false := decide_eq_false (by omega)
      clear c11
      by_cases c12 : (l2.length : Int) > 300
      ·rw [if_pos c12] at H
       have c12b0 : decide (300 < (l2.length : Int)) = true := decide_eq_true c12
       have c12b1 : decide (300 < l2.length) = true := decide_eq_true (by omega)
       clear c12
       have H' := Aside0.mk H
       clear H
       go_wp2
       repeat (go_quiet (fail); try go_wp2)
       go_meet
       case rel => exact ⟨_, (true), (by first | rfl | (simp; done) | (simp [*]; done)), H', ⟨by have := HJ4.out; first | omega | exact Nat.le_refl _⟩, ⟨by (with_reducible repeat (first | refine blk_drewN ?_ _ | refine blk_drew ?_ | refine blk_alloc ?_ _)); exact BK251.out⟩, ⟨by repeat (first | (with_reducible first | exact HB.out | apply below_alloc | apply pw_below_drewN | apply below_drew1 | refine below_set ?_ GE251.out) | exact HB.out)⟩⟩
      ·rw [if_neg c12] at H
       have c12b0 : decide (300 < (l2.length : Int)) = false := decide_eq_false c12
       have c12b1 : decide (300 < l2.length) = false := decide_eq_false (by omega)
       clear c12
       replace H := Option.bind_eq_some_iff.mp H
       obtain ⟨t253, A130, H⟩ := H
       replace H : (if t253 = 0 then (if a0_0 < 0 then (signalbenchlaw30_ModbusGaps.j1 kj4 a1 l2 true a0_0) else (signalbenchlaw30_ModbusGaps.j1 kj4 a1 l2 (decide (a0_0 > 1048576)) a0_0)) else (signalbenchlaw30_ModbusGaps.j1 kj4 a1 l2 true a0_0)) = some r := H
       have A13 := Aside0.mk A130
       clear A130
       by_cases c14 : t253 = 0
       ·rw [if_pos c14] at H
        have c14b0 : (t253 == 0) = true := beq_iff_eq.mpr c14
        have c14b1 : (t253 != 0) = false := bne_eq_false_iff_eq.mpr c14
        clear c14
        by_cases c15 : a0_0 < 0
        ·rw [if_pos c15] at H
         have c15b0 : decide (a0_0 < 0) = true := decide_eq_true c15
         clear c15
         have H' := Aside0.mk H
         clear H
         have hcz16_0 : wc.cell? ⟨gb251, 0, none⟩ = some (.int .i64 a0_0) := (blk_cell BK251.out 0).trans rfl
         have hfz16_0 := blk_frozen BK251.out 0
         go_wp2_with (first | (go_at_call 14; (with_reducible refine (modbus_Check.calls a0_0 t253 _ A13.out).mono ?_); rintro e w17 ⟨rfl, hb⟩; have n0_ := Aside0.mk (blkb BK251.out hb); have n1_ := Aside0.mk (below_step (hbw HB.out) hb); clear BK251; clear HB; have BK251 := n0_; have HB := n1_; clear n0_ n1_; (try clear hb); (try clear hb2); (try clear hk); (try clear hi); have hcz18_0 : w17.cell? ⟨gb251, 0, none⟩ = some (.int .i64 a0_0) := (blk_cell BK251.out 0).trans rfl; have hfz18_0 := blk_frozen BK251.out 0))
         repeat (go_quiet (first | (go_at_call 14; (with_reducible refine (modbus_Check.calls a0_0 t253 _ A13.out).mono ?_); rintro e w17 ⟨rfl, hb⟩; have n0_ := Aside0.mk (blkb BK251.out hb); have n1_ := Aside0.mk (below_step (hbw HB.out) hb); clear BK251; clear HB; have BK251 := n0_; have HB := n1_; clear n0_ n1_; (try clear hb); (try clear hb2); (try clear hk); (try clear hi); have hcz18_0 : w17.cell? ⟨gb251, 0, none⟩ = some (.int .i64 a0_0) := (blk_cell BK251.out 0).trans rfl; have hfz18_0 := blk_frozen BK251.out 0)); try go_wp2_with (first | (go_at_call 14; (with_reducible refine (modbus_Check.calls a0_0 t253 _ A13.out).mono ?_); rintro e w17 ⟨rfl, hb⟩; have n0_ := Aside0.mk (blkb BK251.out hb); have n1_ := Aside0.mk (below_step (hbw HB.out) hb); clear BK251; clear HB; have BK251 := n0_; have HB := n1_; clear n0_ n1_; (try clear hb); (try clear hb2); (try clear hk); (try clear hi); have hcz18_0 : w17.cell? ⟨gb251, 0, none⟩ = some (.int .i64 a0_0) := (blk_cell BK251.out 0).trans rfl; have hfz18_0 := blk_frozen BK251.out 0)))
         go_meet
         case rel => exact ⟨_, (true), (by first | rfl | (simp; done) | (simp [*]; done)), H', ⟨by have := HJ4.out; first | omega | exact Nat.le_refl _⟩, ⟨by (with_reducible repeat (first | refine blk_drewN ?_ _ | refine blk_drew ?_ | refine blk_alloc ?_ _)); exact BK251.out⟩, ⟨by repeat (first | (with_reducible first | exact HB.out | apply below_alloc | apply pw_below_drewN | apply below_drew1 | refine below_set ?_ GE251.out) | exact HB.out)⟩⟩
        ·rw [if_neg c15] at H
         have c15b0 : decide (a0_0 < 0) = false := decide_eq_false c15
         clear c15
         have H' := Aside0.mk H
         clear H
         have hcz19_0 : wc.cell? ⟨gb251, 0, none⟩ = some (.int .i64 a0_0) := (blk_cell BK251.out 0).trans rfl
         have hfz19_0 := blk_frozen BK251.out 0
         go_wp2_with (first | (go_at_call 14; (with_reducible refine (modbus_Check.calls a0_0 t253 _ A13.out).mono ?_); rintro e w20 ⟨rfl, hb⟩; have n0_ := Aside0.mk (blkb BK251.out hb); have n1_ := Aside0.mk (below_step (hbw HB.out) hb); clear BK251; clear HB; have BK251 := n0_; have HB := n1_; clear n0_ n1_; (try clear hb); (try clear hb2); (try clear hk); (try clear hi); have hcz21_0 : w20.cell? ⟨gb251, 0, none⟩ = some (.int .i64 a0_0) := (blk_cell BK251.out 0).trans rfl; have hfz21_0 := blk_frozen BK251.out 0))
         repeat (go_quiet (first | (go_at_call 14; (with_reducible refine (modbus_Check.calls a0_0 t253 _ A13.out).mono ?_); rintro e w20 ⟨rfl, hb⟩; have n0_ := Aside0.mk (blkb BK251.out hb); have n1_ := Aside0.mk (below_step (hbw HB.out) hb); clear BK251; clear HB; have BK251 := n0_; have HB := n1_; clear n0_ n1_; (try clear hb); (try clear hb2); (try clear hk); (try clear hi); have hcz21_0 : w20.cell? ⟨gb251, 0, none⟩ = some (.int .i64 a0_0) := (blk_cell BK251.out 0).trans rfl; have hfz21_0 := blk_frozen BK251.out 0)); try go_wp2_with (first | (go_at_call 14; (with_reducible refine (modbus_Check.calls a0_0 t253 _ A13.out).mono ?_); rintro e w20 ⟨rfl, hb⟩; have n0_ := Aside0.mk (blkb BK251.out hb); have n1_ := Aside0.mk (below_step (hbw HB.out) hb); clear BK251; clear HB; have BK251 := n0_; have HB := n1_; clear n0_ n1_; (try clear hb); (try clear hb2); (try clear hk); (try clear hi); have hcz21_0 : w20.cell? ⟨gb251, 0, none⟩ = some (.int .i64 a0_0) := (blk_cell BK251.out 0).trans rfl; have hfz21_0 := blk_frozen BK251.out 0)))
         go_meet
         case rel => exact ⟨_, (decide (a0_0 > 1048576)), (by first | rfl | (simp; done) | (simp [*]; done)), H', ⟨by have := HJ4.out; first | omega | exact Nat.le_refl _⟩, ⟨by (with_reducible repeat (first | refine blk_drewN ?_ _ | refine blk_drew ?_ | refine blk_alloc ?_ _)); exact BK251.out⟩, ⟨by repeat (first | (with_reducible first | exact HB.out | apply below_alloc | apply pw_below_drewN | apply below_drew1 | refine below_set ?_ GE251.out) | exact HB.out)⟩⟩
       ·rw [if_neg c14] at H
        have c14b0 : (t253 == 0) = false := beq_eq_false_iff_ne.mpr c14
        have c14b1 : (t253 != 0) = true := bne_iff_ne.mpr c14
        have H' := Aside0.mk H
        clear H
        have hcz22_0 : wc.cell? ⟨gb251, 0, none⟩ = some (.int .i64 a0_0) := (blk_cell BK251.out 0).trans rfl
        have hfz22_0 := blk_frozen BK251.out 0
        go_wp2_with (first | (go_at_call 14; (with_reducible refine (modbus_Check.calls a0_0 t253 _ A13.out).mono ?_); rintro e w23 ⟨rfl, hb⟩; have n0_ := Aside0.mk (blkb BK251.out hb); have n1_ := Aside0.mk (below_step (hbw HB.out) hb); clear BK251; clear HB; have BK251 := n0_; have HB := n1_; clear n0_ n1_; (try clear hb); (try clear hb2); (try clear hk); (try clear hi)))
        repeat (go_quiet (first | (go_at_call 14; (with_reducible refine (modbus_Check.calls a0_0 t253 _ A13.out).mono ?_); rintro e w23 ⟨rfl, hb⟩; have n0_ := Aside0.mk (blkb BK251.out hb); have n1_ := Aside0.mk (below_step (hbw HB.out) hb); clear BK251; clear HB; have BK251 := n0_; have HB := n1_; clear n0_ n1_; (try clear hb); (try clear hb2); (try clear hk); (try clear hi))); try go_wp2_with (first | (go_at_call 14; (with_reducible refine (modbus_Check.calls a0_0 t253 _ A13.out).mono ?_); rintro e w23 ⟨rfl, hb⟩; have n0_ := Aside0.mk (blkb BK251.out hb); have n1_ := Aside0.mk (below_step (hbw HB.out) hb); clear BK251; clear HB; have BK251 := n0_; have HB := n1_; clear n0_ n1_; (try clear hb); (try clear hb2); (try clear hk); (try clear hi))))
        go_meet
        case rel => exact ⟨_, (true), (by first | rfl | (simp; done) | (simp [*]; done)), H', ⟨by have := HJ4.out; first | omega | exact Nat.le_refl _⟩, ⟨by (with_reducible repeat (first | refine blk_drewN ?_ _ | refine blk_drew ?_ | refine blk_alloc ?_ _)); exact BK251.out⟩, ⟨by repeat (first | (with_reducible first | exact HB.out | apply below_alloc | apply pw_below_drewN | apply below_drew1 | refine below_set ?_ GE251.out) | exact HB.out)⟩⟩
   case rest =>
    clear HC9
    try clear c1
    try clear c2
    try clear p2
    try clear c7
    try clear c8
    try clear c10
    try clear c10b0
    try clear c10b1
    try clear c11
    try clear c11b0
    try clear c11b1
    try clear c12
    try clear c12b0
    try clear c12b1
    try clear c14
    try clear c14b0
    try clear c14b1
    try clear c15
    try clear c15b0
    try clear hcz16_0
    try clear hcz18_0
    try clear hcz19_0
    try clear hcz21_0
    try clear hcz22_0
    try clear hfz16_0
    try clear hfz18_0
    try clear hfz19_0
    try clear hfz21_0
    try clear hfz22_0
    try clear p2
    obtain ⟨kq, x43_8, rfl, HA, HJ8, BK251, HB⟩ := hcut
    cases kq with
    | zero => exact absurd HA.out (by simp [signalbenchlaw30_ModbusGaps.j1])
    | succ kj8 =>
     have H := HA.out
     clear HA
     simp only [signalbenchlaw30_ModbusGaps.j1] at H
     have HC24 := Aside0.mk H
     clear H
     go_upto_if 43 with (fail)
     repeat (go_quiet (fail); go_upto_if 43 with (fail))
     go_cut [] (fun wc => ∃ (kq : Nat), Aside0 (signalbenchlaw30_ModbusGaps.j2 kq a1 l2 a0_0 = some r) ∧ Aside0 (kq ≤ kj8) ∧ Aside0 (wc.heap[gb251]? = some (.cells #[.int .i64 a0_0] 23 (0, 0))) ∧ Aside0 (Below w.heap.size w wc))
     case first =>
      have H := HC24.out
      clear HC24
      by_cases c25 : x43_8 = true
      ·subst c25
       have H1 : (some true) = some r := by rw [if_pos rfl] at H; exact H
       clear H
       have H := H1
       clear H1
       obtain rfl := Option.some.inj H
       go_wp2
       repeat (go_quiet (fail); try go_wp2)
       go_ret
       exact ⟨by first | rfl | (simp [errW_none, errW_some] <;> rfl) | (simp [*, errW_none, errW_some] <;> rfl), by repeat (first | (with_reducible first | exact HB.out | apply below_alloc | apply pw_below_drewN | apply below_drew1 | refine below_set ?_ GE251.out) | exact HB.out)⟩
      ·replace c25 := Bool.eq_false_iff.mpr c25
       subst c25
       have H1 : (signalbenchlaw30_ModbusGaps.j2 kj8 a1 l2 a0_0) = some r := by rw [if_neg (show ¬ (false = true) by decide)] at H; exact H
       clear H
       have H := H1
       clear H1
       have H' := Aside0.mk H
       clear H
       go_wp2
       repeat (go_quiet (fail); try go_wp2)
       go_meet
       case rel => exact ⟨_, H', ⟨by have := HJ4.out; have := HJ8.out; first | omega | exact Nat.le_refl _⟩, ⟨by (with_reducible repeat (first | refine blk_drewN ?_ _ | refine blk_drew ?_ | refine blk_alloc ?_ _)); exact BK251.out⟩, ⟨by repeat (first | (with_reducible first | exact HB.out | apply below_alloc | apply pw_below_drewN | apply below_drew1 | refine below_set ?_ GE251.out) | exact HB.out)⟩⟩
     case rest =>
      clear HC24
      try clear c1
      try clear c2
      try clear p2
      try clear c7
      try clear c8
      try clear c10
      try clear c10b0
      try clear c10b1
      try clear c11
      try clear c11b0
      try clear c11b1
      try clear c12
      try clear c12b0
      try clear c12b1
      try clear c14
      try clear c14b0
      try clear c14b1
      try clear c15
      try clear c15b0
      try clear c25
      try clear hcz16_0
      try clear hcz18_0
      try clear hcz19_0
      try clear hcz21_0
      try clear hcz22_0
      try clear hfz16_0
      try clear hfz18_0
      try clear hfz19_0
      try clear hfz21_0
      try clear hfz22_0
      try clear p2
      obtain ⟨kq, HA, HJ23, BK251, HB⟩ := hcut
      cases kq with
      | zero => exact absurd HA.out (by simp [signalbenchlaw30_ModbusGaps.j2])
      | succ kj23 =>
       have H := HA.out
       clear HA
       simp only [signalbenchlaw30_ModbusGaps.j2] at H
       obtain ⟨y254, hy254⟩ : ∃ y_ : List (S32), y_ = (([] : List (S32))) := ⟨_, rfl⟩
       replace H : (signalbenchlaw30_ModbusGaps.l0 kj23 a1 l2 y254 (([] : List Int)) 0 0 a0_0) = some r := by first | (rw [hy254]; with_reducible exact H) | (have H2_ := (Option.bind_some _ _).symm.trans H; rw [hy254]; with_reducible exact H2_) | (have H2_ := (Option.bind_some _ _).symm.trans H; with_reducible exact H2_) | with_reducible exact H | (rw [hy254]; exact H) | exact H
       have Ny254 := Aside0.mk hy254
       clear hy254
       obtain ⟨y257, hy257⟩ : ∃ y_ : List Int, y_ = (([] : List Int)) := ⟨_, rfl⟩
       replace H : (signalbenchlaw30_ModbusGaps.l0 kj23 a1 l2 y254 y257 0 0 a0_0) = some r := by first | (rw [hy257]; with_reducible exact H) | (have H2_ := (Option.bind_some _ _).symm.trans H; rw [hy257]; with_reducible exact H2_) | (have H2_ := (Option.bind_some _ _).symm.trans H; with_reducible exact H2_) | with_reducible exact H | (rw [hy257]; exact H) | exact H
       have Ny257 := Aside0.mk hy257
       clear hy257
       have H' := Aside0.mk H
       clear H
       go_wp2_with (first | ((with_reducible refine gate_dst (N := 44) rfl ?_); (try (refine gate_guard (by first | rfl | (go_simp; done)) ?_; dsimp only)); refine Kd.R_lit k32 _ 32 ?hg (N := 44) ?hd (xs := ([] : List (S32))) (inner := []) (ok := fun _ => True) (okp := fun _ => True) ?hr ?hp (fun _ hk => hk) trivial (Below.refl _ _) (Nat.le_refl _) (by simp) ?_; (case hd => rfl); (case hg => rfl); (case hr => first | (go_simp; done) | (go_simp; rfl)); (case hp => exact (Reps.none _ _)); intro v255 w26 ho27 hb hg_ hnew_; clear hg_ hnew_; (first | rw [← Ny254.out] at ho27 | (simp only [Int.reduceToNat] at ho27; rw [← Ny254.out] at ho27)); have n0_ := Aside0.mk (Kd.R_lower ho27 (below_size (hbw HB.out))); have n1_ := Aside0.mk (blkb BK251.out hb); have n2_ := Aside0.mk (below_step (hbw HB.out) hb); clear BK251; clear HB; have HO256 := n0_; have BK251 := n1_; have HB := n2_; clear n0_ n1_ n2_; clear hb ho27) | ((with_reducible refine gate_dst (N := 45) rfl ?_); (try (refine gate_guard (by first | rfl | (go_simp; done)) ?_; dsimp only)); refine Kd.R_lit (Kd.int .i64) _ 3 ?hg (N := 45) ?hd (xs := ([] : List Int)) (inner := []) (ok := fun _ => True) (okp := fun _ => True) ?hr ?hp (fun _ hk => hk) trivial (Below.refl _ _) (Nat.le_refl _) (by simp) ?_; (case hd => rfl); (case hg => rfl); (case hr => first | (go_simp; done) | (go_simp; rfl)); (case hp => exact (Reps.none _ _)); intro v258 w28 ho29 hb hg_ hnew_; clear hg_ hnew_; (first | rw [← Ny257.out] at ho29 | (simp only [Int.reduceToNat] at ho29; rw [← Ny257.out] at ho29)); have n0_ := Aside0.mk (Kd.R_below (rkw HO256.out) hb); have n1_ := Aside0.mk (Kd.R_lower ho29 (below_size (hbw HB.out))); have n2_ := Aside0.mk (blkb BK251.out hb); have n3_ := Aside0.mk (below_step (hbw HB.out) hb); clear HO256; clear BK251; clear HB; have HO256 := n0_; have HO259 := n1_; have BK251 := n2_; have HB := n3_; clear n0_ n1_ n2_ n3_; clear hb ho29))
       repeat (go_quiet (first | ((with_reducible refine gate_dst (N := 44) rfl ?_); (try (refine gate_guard (by first | rfl | (go_simp; done)) ?_; dsimp only)); refine Kd.R_lit k32 _ 32 ?hg (N := 44) ?hd (xs := ([] : List (S32))) (inner := []) (ok := fun _ => True) (okp := fun _ => True) ?hr ?hp (fun _ hk => hk) trivial (Below.refl _ _) (Nat.le_refl _) (by simp) ?_; (case hd => rfl); (case hg => rfl); (case hr => first | (go_simp; done) | (go_simp; rfl)); (case hp => exact (Reps.none _ _)); intro v255 w26 ho27 hb hg_ hnew_; clear hg_ hnew_; (first | rw [← Ny254.out] at ho27 | (simp only [Int.reduceToNat] at ho27; rw [← Ny254.out] at ho27)); have n0_ := Aside0.mk (Kd.R_lower ho27 (below_size (hbw HB.out))); have n1_ := Aside0.mk (blkb BK251.out hb); have n2_ := Aside0.mk (below_step (hbw HB.out) hb); clear BK251; clear HB; have HO256 := n0_; have BK251 := n1_; have HB := n2_; clear n0_ n1_ n2_; clear hb ho27) | ((with_reducible refine gate_dst (N := 45) rfl ?_); (try (refine gate_guard (by first | rfl | (go_simp; done)) ?_; dsimp only)); refine Kd.R_lit (Kd.int .i64) _ 3 ?hg (N := 45) ?hd (xs := ([] : List Int)) (inner := []) (ok := fun _ => True) (okp := fun _ => True) ?hr ?hp (fun _ hk => hk) trivial (Below.refl _ _) (Nat.le_refl _) (by simp) ?_; (case hd => rfl); (case hg => rfl); (case hr => first | (go_simp; done) | (go_simp; rfl)); (case hp => exact (Reps.none _ _)); intro v258 w28 ho29 hb hg_ hnew_; clear hg_ hnew_; (first | rw [← Ny257.out] at ho29 | (simp only [Int.reduceToNat] at ho29; rw [← Ny257.out] at ho29)); have n0_ := Aside0.mk (Kd.R_below (rkw HO256.out) hb); have n1_ := Aside0.mk (Kd.R_lower ho29 (below_size (hbw HB.out))); have n2_ := Aside0.mk (blkb BK251.out hb); have n3_ := Aside0.mk (below_step (hbw HB.out) hb); clear HO256; clear BK251; clear HB; have HO256 := n0_; have HO259 := n1_; have BK251 := n2_; have HB := n3_; clear n0_ n1_ n2_ n3_; clear hb ho29)); try go_wp2_with (first | ((with_reducible refine gate_dst (N := 44) rfl ?_); (try (refine gate_guard (by first | rfl | (go_simp; done)) ?_; dsimp only)); refine Kd.R_lit k32 _ 32 ?hg (N := 44) ?hd (xs := ([] : List (S32))) (inner := []) (ok := fun _ => True) (okp := fun _ => True) ?hr ?hp (fun _ hk => hk) trivial (Below.refl _ _) (Nat.le_refl _) (by simp) ?_; (case hd => rfl); (case hg => rfl); (case hr => first | (go_simp; done) | (go_simp; rfl)); (case hp => exact (Reps.none _ _)); intro v255 w26 ho27 hb hg_ hnew_; clear hg_ hnew_; (first | rw [← Ny254.out] at ho27 | (simp only [Int.reduceToNat] at ho27; rw [← Ny254.out] at ho27)); have n0_ := Aside0.mk (Kd.R_lower ho27 (below_size (hbw HB.out))); have n1_ := Aside0.mk (blkb BK251.out hb); have n2_ := Aside0.mk (below_step (hbw HB.out) hb); clear BK251; clear HB; have HO256 := n0_; have BK251 := n1_; have HB := n2_; clear n0_ n1_ n2_; clear hb ho27) | ((with_reducible refine gate_dst (N := 45) rfl ?_); (try (refine gate_guard (by first | rfl | (go_simp; done)) ?_; dsimp only)); refine Kd.R_lit (Kd.int .i64) _ 3 ?hg (N := 45) ?hd (xs := ([] : List Int)) (inner := []) (ok := fun _ => True) (okp := fun _ => True) ?hr ?hp (fun _ hk => hk) trivial (Below.refl _ _) (Nat.le_refl _) (by simp) ?_; (case hd => rfl); (case hg => rfl); (case hr => first | (go_simp; done) | (go_simp; rfl)); (case hp => exact (Reps.none _ _)); intro v258 w28 ho29 hb hg_ hnew_; clear hg_ hnew_; (first | rw [← Ny257.out] at ho29 | (simp only [Int.reduceToNat] at ho29; rw [← Ny257.out] at ho29)); have n0_ := Aside0.mk (Kd.R_below (rkw HO256.out) hb); have n1_ := Aside0.mk (Kd.R_lower ho29 (below_size (hbw HB.out))); have n2_ := Aside0.mk (blkb BK251.out hb); have n3_ := Aside0.mk (below_step (hbw HB.out) hb); clear HO256; clear BK251; clear HB; have HO256 := n0_; have HO259 := n1_; have BK251 := n2_; have HB := n3_; clear n0_ n1_ n2_ n3_; clear hb ho29)))
       go_loopg [7, 8, 9, 10] kj23 (fun kq v7 v8 v9 v10 w' => ∃ (x7_4 : List (S32)) (x8_4 : List Int) (x9_4 : Int) (x10_4 : Int), v9 = .int .i64 x9_4 ∧ v10 = .int .i64 x10_4 ∧ Aside0 (signalbenchlaw30_ModbusGaps.l0 kq a1 l2 x7_4 x8_4 x9_4 x10_4 a0_0 = some r) ∧ Aside0 (kq ≤ kj23) ∧ Aside0 (Kd.R k32 32 w' w.heap.size (fun _ => True) v7 x7_4) ∧ Aside0 (Kd.R (Kd.int .i64) 3 w' w.heap.size (fun _ => True) v8 x8_4) ∧ Aside0 (w'.heap[gb251]? = some (.cells #[.int .i64 a0_0] 23 (0, 0))) ∧ Aside0 (Below w.heap.size w w'))
       case atStart => exact ⟨(y254), (y257), (0), (0), (by first | rfl | (simp; done) | (simp [*]; done)), (by first | rfl | (simp; done) | (simp [*]; done)), H', ⟨Nat.le_refl _⟩, ⟨by (with_reducible repeat (first | apply Kd.R_alloc | apply Kd.R_drewN | apply Kd.R_drew)); exact HO256.out⟩, ⟨by (with_reducible repeat (first | apply Kd.R_alloc | apply Kd.R_drewN | apply Kd.R_drew)); exact HO259.out⟩, ⟨by (with_reducible repeat (first | refine blk_drewN ?_ _ | refine blk_drew ?_ | refine blk_alloc ?_ _)); exact BK251.out⟩, ⟨by repeat (first | (with_reducible first | exact HB.out | apply below_alloc | apply pw_below_drewN | apply below_drew1 | refine below_set ?_ GE251.out) | exact HB.out)⟩⟩
       case round =>
        clear H'
        try clear c1
        try clear c2
        try clear p2
        try clear c7
        try clear c8
        try clear c10
        try clear c10b0
        try clear c10b1
        try clear c11
        try clear c11b0
        try clear c11b1
        try clear c12
        try clear c12b0
        try clear c12b1
        try clear c14
        try clear c14b0
        try clear c14b1
        try clear c15
        try clear c15b0
        try clear c25
        try clear hcz16_0
        try clear hcz18_0
        try clear hcz19_0
        try clear hcz21_0
        try clear hcz22_0
        try clear hfz16_0
        try clear hfz18_0
        try clear hfz19_0
        try clear hfz21_0
        try clear hfz22_0
        try clear p2
        obtain ⟨x7_4, x8_4, x9_4, x10_4, rfl, rfl, HA, HK4, HO_7, HO_8, BK251, HB⟩ := hrel
        cases gk with
        | zero => exact absurd HA.out (by simp [signalbenchlaw30_ModbusGaps.l0])
        | succ k4 =>
         have H := HA.out
         clear HA
         simp only [signalbenchlaw30_ModbusGaps.l0] at H
         by_cases c30 : x10_4 < (a1.size : Int)
         ·rw [if_pos c30] at H
          have c30b0 : decide (x10_4 < (a1.size : Int)) = true := decide_eq_true c30
          clear c30
          have HC31 := Aside0.mk H
          clear H
          go_upto_region 12 with (fail)
          repeat (go_quiet (fail); go_upto_region 12 with (fail))
          go_cut [69] (fun v69 wc => ∃ (kq : Nat) (x69_30 : Bool), v69 = .bool x69_30 ∧ Aside0 (signalbenchlaw30_ModbusGaps.j4 kq a1 l2 x7_4 x8_4 x9_4 x10_4 0 x69_30 a0_0 = some r) ∧ Aside0 (kq ≤ k4) ∧ Aside0 (Kd.R k32 32 wc w.heap.size (fun _ => True) u7 x7_4) ∧ Aside0 (Kd.R (Kd.int .i64) 3 wc w.heap.size (fun _ => True) u8 x8_4) ∧ Aside0 (wc.heap[gb251]? = some (.cells #[.int .i64 a0_0] 23 (0, 0))) ∧ Aside0 (Below w.heap.size w wc))
          case first =>
           have H := HC31.out
           clear HC31
           by_cases c32 : x10_4 < (l2.length : Int)
           ·rw [if_pos c32] at H
            have c32b0 : decide (x10_4 < (l2.length : Int)) = true := decide_eq_true c32
            clear c32
            (first | rw [c32b0] | (simp only [i64_w, i32_w]; rw [c32b0]) | skip)
            by_cases c33 : 0 ≤ x10_4
            ·rw [if_pos c33] at H
             have c33b0 : decide (0 ≤ x10_4) = true := decide_eq_true c33
             clear c33
             by_cases c34 : (rd l2 x10_4) ≥ 0
             ·rw [if_pos c34] at H
              have c34b0 : decide (0 ≤ (rd l2 x10_4)) = true := decide_eq_true c34
              clear c34
              have H' := Aside0.mk H
              clear H
              have p260 : 0 ≤ (x10_4 : Int) := of_decide_eq_true (by first | (with_reducible assumption) | assumption)
              have q260 : x10_4 < (l2.length : Int) := of_decide_eq_true (by first | (with_reducible assumption) | assumption)
              obtain ⟨ad260, e260, hx260_0⟩ := Kd.at_int HR2.out x10_4 p260 q260
              cases e260
              replace hx260_0 := (HB.out.cell (World.block_lt_of_cell? w _ hx260_0)).trans hx260_0
              replace p260 := eq_true p260
              replace q260 := eq_true q260
              have p261 : 0 ≤ (x10_4 : Int) := of_decide_eq_true (by first | (with_reducible assumption) | assumption)
              have q261 : x10_4 < (l2.length : Int) := of_decide_eq_true (by first | (with_reducible assumption) | assumption)
              obtain ⟨ad261, e261, hx261_0⟩ := Kd.at_int HR2.out x10_4 p261 q261
              obtain rfl : ad260 = ad261 := (by injection e261)
              replace hx261_0 := (HB.out.cell (World.block_lt_of_cell? w _ hx261_0)).trans hx261_0
              replace p261 := eq_true p261
              replace q261 := eq_true q261
              go_wp2
              repeat (go_quiet (fail); try go_wp2)
              go_meet
              case rel => exact ⟨_, (decide ((rd l2 x10_4) ≤ 2097152)), (by first | rfl | (simp; done) | (simp [*]; done)), H', ⟨by have := HJ4.out; have := HJ8.out; have := HJ23.out; have := HK4.out; first | omega | exact Nat.le_refl _⟩, ⟨by (with_reducible repeat (first | apply Kd.R_alloc | apply Kd.R_drewN | apply Kd.R_drew)); exact HO_7.out⟩, ⟨by (with_reducible repeat (first | apply Kd.R_alloc | apply Kd.R_drewN | apply Kd.R_drew)); exact HO_8.out⟩, ⟨by (with_reducible repeat (first | refine blk_drewN ?_ _ | refine blk_drew ?_ | refine blk_alloc ?_ _)); exact BK251.out⟩, ⟨by repeat (first | (with_reducible first | exact HB.out | apply below_alloc | apply pw_below_drewN | apply below_drew1 | refine below_set ?_ GE251.out) | exact HB.out)⟩⟩
             ·rw [if_neg c34] at H
              have c34b0 : decide (0 ≤ (rd l2 x10_4)) = false := decide_eq_false c34
              clear c34
              have H' := Aside0.mk H
              clear H
              have p260 : 0 ≤ (x10_4 : Int) := of_decide_eq_true (by first | (with_reducible assumption) | assumption)
              have q260 : x10_4 < (l2.length : Int) := of_decide_eq_true (by first | (with_reducible assumption) | assumption)
              obtain ⟨ad260, e260, hx260_0⟩ := Kd.at_int HR2.out x10_4 p260 q260
              cases e260
              replace hx260_0 := (HB.out.cell (World.block_lt_of_cell? w _ hx260_0)).trans hx260_0
              replace p260 := eq_true p260
              replace q260 := eq_true q260
              go_wp2
              repeat (go_quiet (fail); try go_wp2)
              go_meet
              case rel => exact ⟨_, (false), (by first | rfl | (simp; done) | (simp [*]; done)), H', ⟨by have := HJ4.out; have := HJ8.out; have := HJ23.out; have := HK4.out; first | omega | exact Nat.le_refl _⟩, ⟨by (with_reducible repeat (first | apply Kd.R_alloc | apply Kd.R_drewN | apply Kd.R_drew)); exact HO_7.out⟩, ⟨by (with_reducible repeat (first | apply Kd.R_alloc | apply Kd.R_drewN | apply Kd.R_drew)); exact HO_8.out⟩, ⟨by (with_reducible repeat (first | refine blk_drewN ?_ _ | refine blk_drew ?_ | refine blk_alloc ?_ _)); exact BK251.out⟩, ⟨by repeat (first | (with_reducible first | exact HB.out | apply below_alloc | apply pw_below_drewN | apply below_drew1 | refine below_set ?_ GE251.out) | exact HB.out)⟩⟩
            ·rw [if_neg c33] at H
             exact absurd H (by simp)
           ·rw [if_neg c32] at H
            have c32b0 : decide (x10_4 < (l2.length : Int)) = false := decide_eq_false c32
            clear c32
            (first | rw [c32b0] | (simp only [i64_w, i32_w]; rw [c32b0]) | skip)
            have H' := Aside0.mk H
            clear H
            go_wp2
            repeat (go_quiet (fail); try go_wp2)
            go_meet
            case rel => exact ⟨_, (false), (by first | rfl | (simp; done) | (simp [*]; done)), H', ⟨by have := HJ4.out; have := HJ8.out; have := HJ23.out; have := HK4.out; first | omega | exact Nat.le_refl _⟩, ⟨by (with_reducible repeat (first | apply Kd.R_alloc | apply Kd.R_drewN | apply Kd.R_drew)); exact HO_7.out⟩, ⟨by (with_reducible repeat (first | apply Kd.R_alloc | apply Kd.R_drewN | apply Kd.R_drew)); exact HO_8.out⟩, ⟨by (with_reducible repeat (first | refine blk_drewN ?_ _ | refine blk_drew ?_ | refine blk_alloc ?_ _)); exact BK251.out⟩, ⟨by repeat (first | (with_reducible first | exact HB.out | apply below_alloc | apply pw_below_drewN | apply below_drew1 | refine below_set ?_ GE251.out) | exact HB.out)⟩⟩
          case rest =>
           clear HC31
           try clear c1
           try clear c2
           try clear p2
           try clear q2
           try clear hx2
           try clear c3
           try clear c7
           try clear c8
           try clear c10
           try clear c10b0
           try clear c10b1
           try clear c11
           try clear c11b0
           try clear c11b1
           try clear c12
           try clear c12b0
           try clear c12b1
           try clear c14
           try clear c14b0
           try clear c14b1
           try clear c15
           try clear c15b0
           try clear c25
           try clear p26
           try clear q26
           try clear hx26
           try clear c30
           try clear c30b0
           try clear c32
           try clear c32b0
           try clear c33
           try clear c33b0
           try clear c34
           try clear c34b0
           try clear hcz16_0
           try clear hcz18_0
           try clear hcz19_0
           try clear hcz21_0
           try clear hcz22_0
           try clear hfz16_0
           try clear hfz18_0
           try clear hfz19_0
           try clear hfz21_0
           try clear hfz22_0
           try clear hx260_0
           try clear hx261_0
           try clear p2
           try clear p260
           try clear p261
           try clear q260
           try clear q261
           obtain ⟨kq, x69_30, rfl, HA, HJ30, HO_7, HO_8, BK251, HB⟩ := hcut
           cases kq with
           | zero => exact absurd HA.out (by simp [signalbenchlaw30_ModbusGaps.j4])
           | succ kj30 =>
            have H := HA.out
            clear HA
            simp only [signalbenchlaw30_ModbusGaps.j4] at H
            by_cases c35 : x69_30 = true
            ·subst c35
             have H1 : (if 0 ≤ x10_4 then (if x10_4 < (l2.length : Int) then (if x10_4 = 0 then (if x8_4.length < 17592186044416 then (if x10_4 < (a1.size : Int) then (if x7_4.length < 2199023255552 then (signalbenchlaw30_ModbusGaps.l0 kj30 a1 l2 (x7_4 ++ [(⟨3, wrap64 (x9_4 + (rd l2 x10_4)), wrap64 ((wrap64 (x9_4 + (rd l2 x10_4))) + 1), wrap64 (bt a1 x10_4), 0, (⟨#[]⟩ : ByteArray), 0⟩ : S32)]) (x8_4 ++ [wrap64 (x9_4 + (rd l2 x10_4))]) (wrap64 ((wrap64 (x9_4 + (rd l2 x10_4))) + 1)) (wrap64 (x10_4 + 1)) a0_0) else (none)) else (none)) else (none)) else (if (rd l2 x10_4) > a0_0 then (if x8_4.length < 17592186044416 then (if x10_4 < (a1.size : Int) then (if x7_4.length < 2199023255552 then (signalbenchlaw30_ModbusGaps.l0 kj30 a1 l2 (x7_4 ++ [(⟨3, wrap64 (x9_4 + (rd l2 x10_4)), wrap64 ((wrap64 (x9_4 + (rd l2 x10_4))) + 1), wrap64 (bt a1 x10_4), 0, (⟨#[]⟩ : ByteArray), 0⟩ : S32)]) (x8_4 ++ [wrap64 (x9_4 + (rd l2 x10_4))]) (wrap64 ((wrap64 (x9_4 + (rd l2 x10_4))) + 1)) (wrap64 (x10_4 + 1)) a0_0) else (none)) else (none)) else (none)) else (if x10_4 < (a1.size : Int) then (if x7_4.length < 2199023255552 then (signalbenchlaw30_ModbusGaps.l0 kj30 a1 l2 (x7_4 ++ [(⟨3, wrap64 (x9_4 + (rd l2 x10_4)), wrap64 ((wrap64 (x9_4 + (rd l2 x10_4))) + 1), wrap64 (bt a1 x10_4), 0, (⟨#[]⟩ : ByteArray), 0⟩ : S32)]) x8_4 (wrap64 ((wrap64 (x9_4 + (rd l2 x10_4))) + 1)) (wrap64 (x10_4 + 1)) a0_0) else (none)) else (none)))) else (none)) else (none)) = some r := by rw [if_pos rfl] at H; exact H
             clear H
             have H := H1
             clear H1
             by_cases c36 : 0 ≤ x10_4
             ·rw [if_pos c36] at H
              have c36b0 : decide (0 ≤ x10_4) = true := decide_eq_true c36
              clear c36
              by_cases c37 : x10_4 < (l2.length : Int)
              ·rw [if_pos c37] at H
               have c37b0 : decide (x10_4 < (l2.length : Int)) = true := decide_eq_true c37
               clear c37
               by_cases c38 : x10_4 = 0
               ·rw [if_pos c38] at H
                have c38b0 : (x10_4 == 0) = true := beq_iff_eq.mpr c38
                have c38b1 : (x10_4 != 0) = false := bne_eq_false_iff_eq.mpr c38
                clear c38
                by_cases c39 : x8_4.length < 17592186044416
                ·rw [if_pos c39] at H
                 have LMc39 := Aside0.mk c39
                 clear c39
                 obtain ⟨y263, hy263⟩ : ∃ y_ : List Int, y_ = (x8_4 ++ [wrap64 (x9_4 + (rd l2 x10_4))]) := ⟨_, rfl⟩
                 replace H : (if x10_4 < (a1.size : Int) then (if x7_4.length < 2199023255552 then (signalbenchlaw30_ModbusGaps.l0 kj30 a1 l2 (x7_4 ++ [(⟨3, wrap64 (x9_4 + (rd l2 x10_4)), wrap64 ((wrap64 (x9_4 + (rd l2 x10_4))) + 1), wrap64 (bt a1 x10_4), 0, (⟨#[]⟩ : ByteArray), 0⟩ : S32)]) y263 (wrap64 ((wrap64 (x9_4 + (rd l2 x10_4))) + 1)) (wrap64 (x10_4 + 1)) a0_0) else (none)) else (none)) = some r := by first | (rw [hy263]; with_reducible exact H) | (have H2_ := (Option.bind_some _ _).symm.trans H; rw [hy263]; with_reducible exact H2_) | (have H2_ := (Option.bind_some _ _).symm.trans H; with_reducible exact H2_) | with_reducible exact H | (rw [hy263]; exact H) | exact H
                 have Ny263 := Aside0.mk hy263
                 clear hy263
                 by_cases c40 : x10_4 < (a1.size : Int)
                 ·rw [if_pos c40] at H
                  have c40b0 : decide (x10_4 < (a1.size : Int)) = true := decide_eq_true c40
                  clear c40
                  by_cases c42 : x7_4.length < 2199023255552
                  ·rw [if_pos c42] at H
                   have LMc42 := Aside0.mk c42
                   clear c42
                   obtain ⟨y266, hy266⟩ : ∃ y_ : List (S32), y_ = (x7_4 ++ [(⟨3, wrap64 (x9_4 + (rd l2 x10_4)), wrap64 ((wrap64 (x9_4 + (rd l2 x10_4))) + 1), wrap64 (bt a1 x10_4), 0, (⟨#[]⟩ : ByteArray), 0⟩ : S32)]) := ⟨_, rfl⟩
                   replace H : (signalbenchlaw30_ModbusGaps.l0 kj30 a1 l2 y266 y263 (wrap64 ((wrap64 (x9_4 + (rd l2 x10_4))) + 1)) (wrap64 (x10_4 + 1)) a0_0) = some r := by first | (rw [hy266]; with_reducible exact H) | (have H2_ := (Option.bind_some _ _).symm.trans H; rw [hy266]; with_reducible exact H2_) | (have H2_ := (Option.bind_some _ _).symm.trans H; with_reducible exact H2_) | with_reducible exact H | (rw [hy266]; exact H) | exact H
                   have Ny266 := Aside0.mk hy266
                   clear hy266
                   have H' := Aside0.mk H
                   clear H
                   have p262 : 0 ≤ (x10_4 : Int) := of_decide_eq_true (by first | (with_reducible assumption) | assumption)
                   have q262 : x10_4 < (l2.length : Int) := of_decide_eq_true (by first | (with_reducible assumption) | assumption)
                   obtain ⟨ad262, e262, hx262_0⟩ := Kd.at_int HR2.out x10_4 p262 q262
                   cases e262
                   replace hx262_0 := (HB.out.cell (World.block_lt_of_cell? w _ hx262_0)).trans hx262_0
                   replace p262 := eq_true p262
                   replace q262 := eq_true q262
                   go_wp2_with (first | ((with_reducible refine gate_builtin (b := .append) (xs := #[.tmp 85, .tmp 87]) rfl ?_); (try (refine gate_guard (by first | rfl | (go_simp; done)) ?_; dsimp only)); at_builtin; refine Kd.R_append (Kd.int .i64) (w0 := w) w.heap.size rfl (.tmp 85) (.tmp 87) 52 3 (.int .i64 0) 8 rfl Tryd.underlying52 info3 rfl (by decide) (by omega) u8 x8_4 (wrap64 (x9_4 + (rd l2 x10_4))) [.int .i64 (wrap64 (x9_4 + (rd l2 x10_4)))] (fun _ => True) (fun _ => False) rfl rfl ?aP (fun _ hk => hk.elim) ?aF ?aO ?aB ?aS ?aL ?_; (case aP => exact rfl); (case aB => exact (hbw HB.out)); (case aF => exact (fun _ _ => trivial)); (case aO => exact (rkw HO_8.out)); (case aS => exact (below_size (hbw HB.out))); (case aL => have := LMc39.out; omega); intro v264 w43 ho hb hg hat; rw [← Ny263.out] at ho; have n0_ := Aside0.mk (Kd.R_over' (rkw HO_7.out) (Kd.R_typed (rkw HO_8.out)) (by decide) hg); have n1_ := Aside0.mk (blkg BK251.out hg (Kd.R_ne HO_8.out BK251.out (by decide))); have n2_ := Aside0.mk (hb); have n3_ := Aside0.mk (ho); clear HO_7; clear BK251; clear HB; clear HO_8; have HO_7 := n0_; have BK251 := n1_; have HB := n2_; have HO265 := n3_; clear n0_ n1_ n2_ n3_; clear ho hb hg hat; have p41 : 0 ≤ (x10_4 : Int) := of_decide_eq_true (by first | (with_reducible assumption) | assumption); have q41 : x10_4 < (a1.size : Int) := of_decide_eq_true (by first | (with_reducible assumption) | assumption); have hx41 := bt_at a1 x10_4; replace p41 := eq_true p41; replace q41 := eq_true q41) | ((with_reducible refine gate_builtin (b := .append) (xs := #[.tmp 89, .tmp 98]) rfl ?_); (try (refine gate_guard (by first | rfl | (go_simp; done)) ?_; dsimp only)); at_builtin; refine Kd.R_append k32 (w0 := w) w.heap.size rfl (.tmp 89) (.tmp 98) 24 32 (.agg #[(.int .i64 0), (.int .i64 0), (.int .i64 0), (.int .i64 0), (.int .i64 0), (.string ⟨#[]⟩), (.int .i64 0)]) 64 rfl Tryd.underlying24 info32 rfl (by decide) (by omega) u7 x7_4 (⟨3, wrap64 (x9_4 + (rd l2 x10_4)), wrap64 ((wrap64 (x9_4 + (rd l2 x10_4))) + 1), wrap64 (bt a1 x10_4), 0, (⟨#[]⟩ : ByteArray), 0⟩ : S32) [.int .i64 3, .int .i64 (wrap64 (x9_4 + (rd l2 x10_4))), .int .i64 (wrap64 ((wrap64 (x9_4 + (rd l2 x10_4))) + 1)), .int .i64 (wrap64 (bt a1 x10_4)), .int .i64 0, .string (⟨#[]⟩ : ByteArray), .int .i64 0] (fun _ => True) (fun _ => False) rfl rfl ?aP (fun _ hk => hk.elim) ?aF ?aO ?aB ?aS ?aL ?_; (case aP => exact k32_mkM _ _ _ (⟨3, wrap64 (x9_4 + (rd l2 x10_4)), wrap64 ((wrap64 (x9_4 + (rd l2 x10_4))) + 1), wrap64 (bt a1 x10_4), 0, (⟨#[]⟩ : ByteArray), 0⟩ : S32)); (case aB => exact (hbw HB.out)); (case aF => exact (fun _ _ => trivial)); (case aO => exact (rkw HO_7.out)); (case aS => exact (below_size (hbw HB.out))); (case aL => have := LMc42.out; omega); intro v267 w44 ho hb hg hat; rw [← Ny266.out] at ho; have n0_ := Aside0.mk (blkg BK251.out hg (Kd.R_ne HO_7.out BK251.out (by decide))); have n1_ := Aside0.mk (Kd.R_over' (rkw HO265.out) (Kd.R_typed (rkw HO_7.out)) (by decide) hg); have n2_ := Aside0.mk (hb); have n3_ := Aside0.mk (ho); clear BK251; clear HO265; clear HB; clear HO_7; have BK251 := n0_; have HO265 := n1_; have HB := n2_; have HO268 := n3_; clear n0_ n1_ n2_ n3_; clear ho hb hg hat))
                   repeat (go_quiet (first | ((with_reducible refine gate_builtin (b := .append) (xs := #[.tmp 85, .tmp 87]) rfl ?_); (try (refine gate_guard (by first | rfl | (go_simp; done)) ?_; dsimp only)); at_builtin; refine Kd.R_append (Kd.int .i64) (w0 := w) w.heap.size rfl (.tmp 85) (.tmp 87) 52 3 (.int .i64 0) 8 rfl Tryd.underlying52 info3 rfl (by decide) (by omega) u8 x8_4 (wrap64 (x9_4 + (rd l2 x10_4))) [.int .i64 (wrap64 (x9_4 + (rd l2 x10_4)))] (fun _ => True) (fun _ => False) rfl rfl ?aP (fun _ hk => hk.elim) ?aF ?aO ?aB ?aS ?aL ?_; (case aP => exact rfl); (case aB => exact (hbw HB.out)); (case aF => exact (fun _ _ => trivial)); (case aO => exact (rkw HO_8.out)); (case aS => exact (below_size (hbw HB.out))); (case aL => have := LMc39.out; omega); intro v264 w43 ho hb hg hat; rw [← Ny263.out] at ho; have n0_ := Aside0.mk (Kd.R_over' (rkw HO_7.out) (Kd.R_typed (rkw HO_8.out)) (by decide) hg); have n1_ := Aside0.mk (blkg BK251.out hg (Kd.R_ne HO_8.out BK251.out (by decide))); have n2_ := Aside0.mk (hb); have n3_ := Aside0.mk (ho); clear HO_7; clear BK251; clear HB; clear HO_8; have HO_7 := n0_; have BK251 := n1_; have HB := n2_; have HO265 := n3_; clear n0_ n1_ n2_ n3_; clear ho hb hg hat; have p41 : 0 ≤ (x10_4 : Int) := of_decide_eq_true (by first | (with_reducible assumption) | assumption); have q41 : x10_4 < (a1.size : Int) := of_decide_eq_true (by first | (with_reducible assumption) | assumption); have hx41 := bt_at a1 x10_4; replace p41 := eq_true p41; replace q41 := eq_true q41) | ((with_reducible refine gate_builtin (b := .append) (xs := #[.tmp 89, .tmp 98]) rfl ?_); (try (refine gate_guard (by first | rfl | (go_simp; done)) ?_; dsimp only)); at_builtin; refine Kd.R_append k32 (w0 := w) w.heap.size rfl (.tmp 89) (.tmp 98) 24 32 (.agg #[(.int .i64 0), (.int .i64 0), (.int .i64 0), (.int .i64 0), (.int .i64 0), (.string ⟨#[]⟩), (.int .i64 0)]) 64 rfl Tryd.underlying24 info32 rfl (by decide) (by omega) u7 x7_4 (⟨3, wrap64 (x9_4 + (rd l2 x10_4)), wrap64 ((wrap64 (x9_4 + (rd l2 x10_4))) + 1), wrap64 (bt a1 x10_4), 0, (⟨#[]⟩ : ByteArray), 0⟩ : S32) [.int .i64 3, .int .i64 (wrap64 (x9_4 + (rd l2 x10_4))), .int .i64 (wrap64 ((wrap64 (x9_4 + (rd l2 x10_4))) + 1)), .int .i64 (wrap64 (bt a1 x10_4)), .int .i64 0, .string (⟨#[]⟩ : ByteArray), .int .i64 0] (fun _ => True) (fun _ => False) rfl rfl ?aP (fun _ hk => hk.elim) ?aF ?aO ?aB ?aS ?aL ?_; (case aP => exact k32_mkM _ _ _ (⟨3, wrap64 (x9_4 + (rd l2 x10_4)), wrap64 ((wrap64 (x9_4 + (rd l2 x10_4))) + 1), wrap64 (bt a1 x10_4), 0, (⟨#[]⟩ : ByteArray), 0⟩ : S32)); (case aB => exact (hbw HB.out)); (case aF => exact (fun _ _ => trivial)); (case aO => exact (rkw HO_7.out)); (case aS => exact (below_size (hbw HB.out))); (case aL => have := LMc42.out; omega); intro v267 w44 ho hb hg hat; rw [← Ny266.out] at ho; have n0_ := Aside0.mk (blkg BK251.out hg (Kd.R_ne HO_7.out BK251.out (by decide))); have n1_ := Aside0.mk (Kd.R_over' (rkw HO265.out) (Kd.R_typed (rkw HO_7.out)) (by decide) hg); have n2_ := Aside0.mk (hb); have n3_ := Aside0.mk (ho); clear BK251; clear HO265; clear HB; clear HO_7; have BK251 := n0_; have HO265 := n1_; have HB := n2_; have HO268 := n3_; clear n0_ n1_ n2_ n3_; clear ho hb hg hat)); try go_wp2_with (first | ((with_reducible refine gate_builtin (b := .append) (xs := #[.tmp 85, .tmp 87]) rfl ?_); (try (refine gate_guard (by first | rfl | (go_simp; done)) ?_; dsimp only)); at_builtin; refine Kd.R_append (Kd.int .i64) (w0 := w) w.heap.size rfl (.tmp 85) (.tmp 87) 52 3 (.int .i64 0) 8 rfl Tryd.underlying52 info3 rfl (by decide) (by omega) u8 x8_4 (wrap64 (x9_4 + (rd l2 x10_4))) [.int .i64 (wrap64 (x9_4 + (rd l2 x10_4)))] (fun _ => True) (fun _ => False) rfl rfl ?aP (fun _ hk => hk.elim) ?aF ?aO ?aB ?aS ?aL ?_; (case aP => exact rfl); (case aB => exact (hbw HB.out)); (case aF => exact (fun _ _ => trivial)); (case aO => exact (rkw HO_8.out)); (case aS => exact (below_size (hbw HB.out))); (case aL => have := LMc39.out; omega); intro v264 w43 ho hb hg hat; rw [← Ny263.out] at ho; have n0_ := Aside0.mk (Kd.R_over' (rkw HO_7.out) (Kd.R_typed (rkw HO_8.out)) (by decide) hg); have n1_ := Aside0.mk (blkg BK251.out hg (Kd.R_ne HO_8.out BK251.out (by decide))); have n2_ := Aside0.mk (hb); have n3_ := Aside0.mk (ho); clear HO_7; clear BK251; clear HB; clear HO_8; have HO_7 := n0_; have BK251 := n1_; have HB := n2_; have HO265 := n3_; clear n0_ n1_ n2_ n3_; clear ho hb hg hat; have p41 : 0 ≤ (x10_4 : Int) := of_decide_eq_true (by first | (with_reducible assumption) | assumption); have q41 : x10_4 < (a1.size : Int) := of_decide_eq_true (by first | (with_reducible assumption) | assumption); have hx41 := bt_at a1 x10_4; replace p41 := eq_true p41; replace q41 := eq_true q41) | ((with_reducible refine gate_builtin (b := .append) (xs := #[.tmp 89, .tmp 98]) rfl ?_); (try (refine gate_guard (by first | rfl | (go_simp; done)) ?_; dsimp only)); at_builtin; refine Kd.R_append k32 (w0 := w) w.heap.size rfl (.tmp 89) (.tmp 98) 24 32 (.agg #[(.int .i64 0), (.int .i64 0), (.int .i64 0), (.int .i64 0), (.int .i64 0), (.string ⟨#[]⟩), (.int .i64 0)]) 64 rfl Tryd.underlying24 info32 rfl (by decide) (by omega) u7 x7_4 (⟨3, wrap64 (x9_4 + (rd l2 x10_4)), wrap64 ((wrap64 (x9_4 + (rd l2 x10_4))) + 1), wrap64 (bt a1 x10_4), 0, (⟨#[]⟩ : ByteArray), 0⟩ : S32) [.int .i64 3, .int .i64 (wrap64 (x9_4 + (rd l2 x10_4))), .int .i64 (wrap64 ((wrap64 (x9_4 + (rd l2 x10_4))) + 1)), .int .i64 (wrap64 (bt a1 x10_4)), .int .i64 0, .string (⟨#[]⟩ : ByteArray), .int .i64 0] (fun _ => True) (fun _ => False) rfl rfl ?aP (fun _ hk => hk.elim) ?aF ?aO ?aB ?aS ?aL ?_; (case aP => exact k32_mkM _ _ _ (⟨3, wrap64 (x9_4 + (rd l2 x10_4)), wrap64 ((wrap64 (x9_4 + (rd l2 x10_4))) + 1), wrap64 (bt a1 x10_4), 0, (⟨#[]⟩ : ByteArray), 0⟩ : S32)); (case aB => exact (hbw HB.out)); (case aF => exact (fun _ _ => trivial)); (case aO => exact (rkw HO_7.out)); (case aS => exact (below_size (hbw HB.out))); (case aL => have := LMc42.out; omega); intro v267 w44 ho hb hg hat; rw [← Ny266.out] at ho; have n0_ := Aside0.mk (blkg BK251.out hg (Kd.R_ne HO_7.out BK251.out (by decide))); have n1_ := Aside0.mk (Kd.R_over' (rkw HO265.out) (Kd.R_typed (rkw HO_7.out)) (by decide) hg); have n2_ := Aside0.mk (hb); have n3_ := Aside0.mk (ho); clear BK251; clear HO265; clear HB; clear HO_7; have BK251 := n0_; have HO265 := n1_; have HB := n2_; have HO268 := n3_; clear n0_ n1_ n2_ n3_; clear ho hb hg hat)))
                   go_roundg kj30
                   case measure => have := HJ4.out; have := HJ8.out; have := HJ23.out; have := HK4.out; have := HJ30.out; omega
                   case rel => exact ⟨(y266), (y263), (wrap64 ((wrap64 (x9_4 + (rd l2 x10_4))) + 1)), (wrap64 (x10_4 + 1)), (by first | rfl | (simp; done) | (simp [*]; done)), (by first | rfl | (simp; done) | (simp [*]; done)), H', ⟨by have := HJ4.out; have := HJ8.out; have := HJ23.out; have := HK4.out; have := HJ30.out; omega⟩, ⟨by (with_reducible repeat (first | apply Kd.R_alloc | apply Kd.R_drewN | apply Kd.R_drew)); exact HO268.out⟩, ⟨by (with_reducible repeat (first | apply Kd.R_alloc | apply Kd.R_drewN | apply Kd.R_drew)); exact HO265.out⟩, ⟨by (with_reducible repeat (first | refine blk_drewN ?_ _ | refine blk_drew ?_ | refine blk_alloc ?_ _)); exact BK251.out⟩, ⟨by repeat (first | (with_reducible first | exact HB.out | apply below_alloc | apply pw_below_drewN | apply below_drew1 | refine below_set ?_ GE251.out) | exact HB.out)⟩⟩
                  ·rw [if_neg c42] at H
                   exact absurd H (by simp)
                 ·rw [if_neg c40] at H
                  exact absurd H (by simp)
                ·rw [if_neg c39] at H
                 exact absurd H (by simp)
               ·rw [if_neg c38] at H
                have c38b0 : (x10_4 == 0) = false := beq_eq_false_iff_ne.mpr c38
                have c38b1 : (x10_4 != 0) = true := bne_iff_ne.mpr c38
                by_cases c45 : (rd l2 x10_4) > a0_0
                ·rw [if_pos c45] at H
                 have c45b0 : decide (a0_0 < (rd l2 x10_4)) = true := decide_eq_true c45
                 clear c45
                 by_cases c46 : x8_4.length < 17592186044416
                 ·rw [if_pos c46] at H
                  have LMc46 := Aside0.mk c46
                  clear c46
                  obtain ⟨y269, hy269⟩ : ∃ y_ : List Int, y_ = (x8_4 ++ [wrap64 (x9_4 + (rd l2 x10_4))]) := ⟨_, rfl⟩
                  replace H : (if x10_4 < (a1.size : Int) then (if x7_4.length < 2199023255552 then (signalbenchlaw30_ModbusGaps.l0 kj30 a1 l2 (x7_4 ++ [(⟨3, wrap64 (x9_4 + (rd l2 x10_4)), wrap64 ((wrap64 (x9_4 + (rd l2 x10_4))) + 1), wrap64 (bt a1 x10_4), 0, (⟨#[]⟩ : ByteArray), 0⟩ : S32)]) y269 (wrap64 ((wrap64 (x9_4 + (rd l2 x10_4))) + 1)) (wrap64 (x10_4 + 1)) a0_0) else (none)) else (none)) = some r := by first | (rw [hy269]; with_reducible exact H) | (have H2_ := (Option.bind_some _ _).symm.trans H; rw [hy269]; with_reducible exact H2_) | (have H2_ := (Option.bind_some _ _).symm.trans H; with_reducible exact H2_) | with_reducible exact H | (rw [hy269]; exact H) | exact H
                  have Ny269 := Aside0.mk hy269
                  clear hy269
                  by_cases c47 : x10_4 < (a1.size : Int)
                  ·rw [if_pos c47] at H
                   have c47b0 : decide (x10_4 < (a1.size : Int)) = true := decide_eq_true c47
                   clear c47
                   by_cases c49 : x7_4.length < 2199023255552
                   ·rw [if_pos c49] at H
                    have LMc49 := Aside0.mk c49
                    clear c49
                    obtain ⟨y272, hy272⟩ : ∃ y_ : List (S32), y_ = (x7_4 ++ [(⟨3, wrap64 (x9_4 + (rd l2 x10_4)), wrap64 ((wrap64 (x9_4 + (rd l2 x10_4))) + 1), wrap64 (bt a1 x10_4), 0, (⟨#[]⟩ : ByteArray), 0⟩ : S32)]) := ⟨_, rfl⟩
                    replace H : (signalbenchlaw30_ModbusGaps.l0 kj30 a1 l2 y272 y269 (wrap64 ((wrap64 (x9_4 + (rd l2 x10_4))) + 1)) (wrap64 (x10_4 + 1)) a0_0) = some r := by first | (rw [hy272]; with_reducible exact H) | (have H2_ := (Option.bind_some _ _).symm.trans H; rw [hy272]; with_reducible exact H2_) | (have H2_ := (Option.bind_some _ _).symm.trans H; with_reducible exact H2_) | with_reducible exact H | (rw [hy272]; exact H) | exact H
                    have Ny272 := Aside0.mk hy272
                    clear hy272
                    have H' := Aside0.mk H
                    clear H
                    have p262 : 0 ≤ (x10_4 : Int) := of_decide_eq_true (by first | (with_reducible assumption) | assumption)
                    have q262 : x10_4 < (l2.length : Int) := of_decide_eq_true (by first | (with_reducible assumption) | assumption)
                    obtain ⟨ad262, e262, hx262_0⟩ := Kd.at_int HR2.out x10_4 p262 q262
                    cases e262
                    replace hx262_0 := (HB.out.cell (World.block_lt_of_cell? w _ hx262_0)).trans hx262_0
                    replace p262 := eq_true p262
                    replace q262 := eq_true q262
                    have hcz50_0 : wc.cell? ⟨gb251, 0, none⟩ = some (.int .i64 a0_0) := (blk_cell BK251.out 0).trans rfl
                    have hfz50_0 := blk_frozen BK251.out 0
                    go_wp2_with (first | ((with_reducible refine gate_builtin (b := .append) (xs := #[.tmp 85, .tmp 87]) rfl ?_); (try (refine gate_guard (by first | rfl | (go_simp; done)) ?_; dsimp only)); at_builtin; refine Kd.R_append (Kd.int .i64) (w0 := w) w.heap.size rfl (.tmp 85) (.tmp 87) 52 3 (.int .i64 0) 8 rfl Tryd.underlying52 info3 rfl (by decide) (by omega) u8 x8_4 (wrap64 (x9_4 + (rd l2 x10_4))) [.int .i64 (wrap64 (x9_4 + (rd l2 x10_4)))] (fun _ => True) (fun _ => False) rfl rfl ?aP (fun _ hk => hk.elim) ?aF ?aO ?aB ?aS ?aL ?_; (case aP => exact rfl); (case aB => exact (hbw HB.out)); (case aF => exact (fun _ _ => trivial)); (case aO => exact (rkw HO_8.out)); (case aS => exact (below_size (hbw HB.out))); (case aL => have := LMc46.out; omega); intro v270 w51 ho hb hg hat; rw [← Ny269.out] at ho; have n0_ := Aside0.mk (Kd.R_over' (rkw HO_7.out) (Kd.R_typed (rkw HO_8.out)) (by decide) hg); have n1_ := Aside0.mk (blkg BK251.out hg (Kd.R_ne HO_8.out BK251.out (by decide))); have n2_ := Aside0.mk (hb); have n3_ := Aside0.mk (ho); clear HO_7; clear BK251; clear HB; clear HO_8; have HO_7 := n0_; have BK251 := n1_; have HB := n2_; have HO271 := n3_; clear n0_ n1_ n2_ n3_; clear ho hb hg hat; have p48 : 0 ≤ (x10_4 : Int) := of_decide_eq_true (by first | (with_reducible assumption) | assumption); have q48 : x10_4 < (a1.size : Int) := of_decide_eq_true (by first | (with_reducible assumption) | assumption); have hx48 := bt_at a1 x10_4; replace p48 := eq_true p48; replace q48 := eq_true q48) | ((with_reducible refine gate_builtin (b := .append) (xs := #[.tmp 89, .tmp 98]) rfl ?_); (try (refine gate_guard (by first | rfl | (go_simp; done)) ?_; dsimp only)); at_builtin; refine Kd.R_append k32 (w0 := w) w.heap.size rfl (.tmp 89) (.tmp 98) 24 32 (.agg #[(.int .i64 0), (.int .i64 0), (.int .i64 0), (.int .i64 0), (.int .i64 0), (.string ⟨#[]⟩), (.int .i64 0)]) 64 rfl Tryd.underlying24 info32 rfl (by decide) (by omega) u7 x7_4 (⟨3, wrap64 (x9_4 + (rd l2 x10_4)), wrap64 ((wrap64 (x9_4 + (rd l2 x10_4))) + 1), wrap64 (bt a1 x10_4), 0, (⟨#[]⟩ : ByteArray), 0⟩ : S32) [.int .i64 3, .int .i64 (wrap64 (x9_4 + (rd l2 x10_4))), .int .i64 (wrap64 ((wrap64 (x9_4 + (rd l2 x10_4))) + 1)), .int .i64 (wrap64 (bt a1 x10_4)), .int .i64 0, .string (⟨#[]⟩ : ByteArray), .int .i64 0] (fun _ => True) (fun _ => False) rfl rfl ?aP (fun _ hk => hk.elim) ?aF ?aO ?aB ?aS ?aL ?_; (case aP => exact k32_mkM _ _ _ (⟨3, wrap64 (x9_4 + (rd l2 x10_4)), wrap64 ((wrap64 (x9_4 + (rd l2 x10_4))) + 1), wrap64 (bt a1 x10_4), 0, (⟨#[]⟩ : ByteArray), 0⟩ : S32)); (case aB => exact (hbw HB.out)); (case aF => exact (fun _ _ => trivial)); (case aO => exact (rkw HO_7.out)); (case aS => exact (below_size (hbw HB.out))); (case aL => have := LMc49.out; omega); intro v273 w52 ho hb hg hat; rw [← Ny272.out] at ho; have n0_ := Aside0.mk (blkg BK251.out hg (Kd.R_ne HO_7.out BK251.out (by decide))); have n1_ := Aside0.mk (Kd.R_over' (rkw HO271.out) (Kd.R_typed (rkw HO_7.out)) (by decide) hg); have n2_ := Aside0.mk (hb); have n3_ := Aside0.mk (ho); clear BK251; clear HO271; clear HB; clear HO_7; have BK251 := n0_; have HO271 := n1_; have HB := n2_; have HO274 := n3_; clear n0_ n1_ n2_ n3_; clear ho hb hg hat))
                    repeat (go_quiet (first | ((with_reducible refine gate_builtin (b := .append) (xs := #[.tmp 85, .tmp 87]) rfl ?_); (try (refine gate_guard (by first | rfl | (go_simp; done)) ?_; dsimp only)); at_builtin; refine Kd.R_append (Kd.int .i64) (w0 := w) w.heap.size rfl (.tmp 85) (.tmp 87) 52 3 (.int .i64 0) 8 rfl Tryd.underlying52 info3 rfl (by decide) (by omega) u8 x8_4 (wrap64 (x9_4 + (rd l2 x10_4))) [.int .i64 (wrap64 (x9_4 + (rd l2 x10_4)))] (fun _ => True) (fun _ => False) rfl rfl ?aP (fun _ hk => hk.elim) ?aF ?aO ?aB ?aS ?aL ?_; (case aP => exact rfl); (case aB => exact (hbw HB.out)); (case aF => exact (fun _ _ => trivial)); (case aO => exact (rkw HO_8.out)); (case aS => exact (below_size (hbw HB.out))); (case aL => have := LMc46.out; omega); intro v270 w51 ho hb hg hat; rw [← Ny269.out] at ho; have n0_ := Aside0.mk (Kd.R_over' (rkw HO_7.out) (Kd.R_typed (rkw HO_8.out)) (by decide) hg); have n1_ := Aside0.mk (blkg BK251.out hg (Kd.R_ne HO_8.out BK251.out (by decide))); have n2_ := Aside0.mk (hb); have n3_ := Aside0.mk (ho); clear HO_7; clear BK251; clear HB; clear HO_8; have HO_7 := n0_; have BK251 := n1_; have HB := n2_; have HO271 := n3_; clear n0_ n1_ n2_ n3_; clear ho hb hg hat; have p48 : 0 ≤ (x10_4 : Int) := of_decide_eq_true (by first | (with_reducible assumption) | assumption); have q48 : x10_4 < (a1.size : Int) := of_decide_eq_true (by first | (with_reducible assumption) | assumption); have hx48 := bt_at a1 x10_4; replace p48 := eq_true p48; replace q48 := eq_true q48) | ((with_reducible refine gate_builtin (b := .append) (xs := #[.tmp 89, .tmp 98]) rfl ?_); (try (refine gate_guard (by first | rfl | (go_simp; done)) ?_; dsimp only)); at_builtin; refine Kd.R_append k32 (w0 := w) w.heap.size rfl (.tmp 89) (.tmp 98) 24 32 (.agg #[(.int .i64 0), (.int .i64 0), (.int .i64 0), (.int .i64 0), (.int .i64 0), (.string ⟨#[]⟩), (.int .i64 0)]) 64 rfl Tryd.underlying24 info32 rfl (by decide) (by omega) u7 x7_4 (⟨3, wrap64 (x9_4 + (rd l2 x10_4)), wrap64 ((wrap64 (x9_4 + (rd l2 x10_4))) + 1), wrap64 (bt a1 x10_4), 0, (⟨#[]⟩ : ByteArray), 0⟩ : S32) [.int .i64 3, .int .i64 (wrap64 (x9_4 + (rd l2 x10_4))), .int .i64 (wrap64 ((wrap64 (x9_4 + (rd l2 x10_4))) + 1)), .int .i64 (wrap64 (bt a1 x10_4)), .int .i64 0, .string (⟨#[]⟩ : ByteArray), .int .i64 0] (fun _ => True) (fun _ => False) rfl rfl ?aP (fun _ hk => hk.elim) ?aF ?aO ?aB ?aS ?aL ?_; (case aP => exact k32_mkM _ _ _ (⟨3, wrap64 (x9_4 + (rd l2 x10_4)), wrap64 ((wrap64 (x9_4 + (rd l2 x10_4))) + 1), wrap64 (bt a1 x10_4), 0, (⟨#[]⟩ : ByteArray), 0⟩ : S32)); (case aB => exact (hbw HB.out)); (case aF => exact (fun _ _ => trivial)); (case aO => exact (rkw HO_7.out)); (case aS => exact (below_size (hbw HB.out))); (case aL => have := LMc49.out; omega); intro v273 w52 ho hb hg hat; rw [← Ny272.out] at ho; have n0_ := Aside0.mk (blkg BK251.out hg (Kd.R_ne HO_7.out BK251.out (by decide))); have n1_ := Aside0.mk (Kd.R_over' (rkw HO271.out) (Kd.R_typed (rkw HO_7.out)) (by decide) hg); have n2_ := Aside0.mk (hb); have n3_ := Aside0.mk (ho); clear BK251; clear HO271; clear HB; clear HO_7; have BK251 := n0_; have HO271 := n1_; have HB := n2_; have HO274 := n3_; clear n0_ n1_ n2_ n3_; clear ho hb hg hat)); try go_wp2_with (first | ((with_reducible refine gate_builtin (b := .append) (xs := #[.tmp 85, .tmp 87]) rfl ?_); (try (refine gate_guard (by first | rfl | (go_simp; done)) ?_; dsimp only)); at_builtin; refine Kd.R_append (Kd.int .i64) (w0 := w) w.heap.size rfl (.tmp 85) (.tmp 87) 52 3 (.int .i64 0) 8 rfl Tryd.underlying52 info3 rfl (by decide) (by omega) u8 x8_4 (wrap64 (x9_4 + (rd l2 x10_4))) [.int .i64 (wrap64 (x9_4 + (rd l2 x10_4)))] (fun _ => True) (fun _ => False) rfl rfl ?aP (fun _ hk => hk.elim) ?aF ?aO ?aB ?aS ?aL ?_; (case aP => exact rfl); (case aB => exact (hbw HB.out)); (case aF => exact (fun _ _ => trivial)); (case aO => exact (rkw HO_8.out)); (case aS => exact (below_size (hbw HB.out))); (case aL => have := LMc46.out; omega); intro v270 w51 ho hb hg hat; rw [← Ny269.out] at ho; have n0_ := Aside0.mk (Kd.R_over' (rkw HO_7.out) (Kd.R_typed (rkw HO_8.out)) (by decide) hg); have n1_ := Aside0.mk (blkg BK251.out hg (Kd.R_ne HO_8.out BK251.out (by decide))); have n2_ := Aside0.mk (hb); have n3_ := Aside0.mk (ho); clear HO_7; clear BK251; clear HB; clear HO_8; have HO_7 := n0_; have BK251 := n1_; have HB := n2_; have HO271 := n3_; clear n0_ n1_ n2_ n3_; clear ho hb hg hat; have p48 : 0 ≤ (x10_4 : Int) := of_decide_eq_true (by first | (with_reducible assumption) | assumption); have q48 : x10_4 < (a1.size : Int) := of_decide_eq_true (by first | (with_reducible assumption) | assumption); have hx48 := bt_at a1 x10_4; replace p48 := eq_true p48; replace q48 := eq_true q48) | ((with_reducible refine gate_builtin (b := .append) (xs := #[.tmp 89, .tmp 98]) rfl ?_); (try (refine gate_guard (by first | rfl | (go_simp; done)) ?_; dsimp only)); at_builtin; refine Kd.R_append k32 (w0 := w) w.heap.size rfl (.tmp 89) (.tmp 98) 24 32 (.agg #[(.int .i64 0), (.int .i64 0), (.int .i64 0), (.int .i64 0), (.int .i64 0), (.string ⟨#[]⟩), (.int .i64 0)]) 64 rfl Tryd.underlying24 info32 rfl (by decide) (by omega) u7 x7_4 (⟨3, wrap64 (x9_4 + (rd l2 x10_4)), wrap64 ((wrap64 (x9_4 + (rd l2 x10_4))) + 1), wrap64 (bt a1 x10_4), 0, (⟨#[]⟩ : ByteArray), 0⟩ : S32) [.int .i64 3, .int .i64 (wrap64 (x9_4 + (rd l2 x10_4))), .int .i64 (wrap64 ((wrap64 (x9_4 + (rd l2 x10_4))) + 1)), .int .i64 (wrap64 (bt a1 x10_4)), .int .i64 0, .string (⟨#[]⟩ : ByteArray), .int .i64 0] (fun _ => True) (fun _ => False) rfl rfl ?aP (fun _ hk => hk.elim) ?aF ?aO ?aB ?aS ?aL ?_; (case aP => exact k32_mkM _ _ _ (⟨3, wrap64 (x9_4 + (rd l2 x10_4)), wrap64 ((wrap64 (x9_4 + (rd l2 x10_4))) + 1), wrap64 (bt a1 x10_4), 0, (⟨#[]⟩ : ByteArray), 0⟩ : S32)); (case aB => exact (hbw HB.out)); (case aF => exact (fun _ _ => trivial)); (case aO => exact (rkw HO_7.out)); (case aS => exact (below_size (hbw HB.out))); (case aL => have := LMc49.out; omega); intro v273 w52 ho hb hg hat; rw [← Ny272.out] at ho; have n0_ := Aside0.mk (blkg BK251.out hg (Kd.R_ne HO_7.out BK251.out (by decide))); have n1_ := Aside0.mk (Kd.R_over' (rkw HO271.out) (Kd.R_typed (rkw HO_7.out)) (by decide) hg); have n2_ := Aside0.mk (hb); have n3_ := Aside0.mk (ho); clear BK251; clear HO271; clear HB; clear HO_7; have BK251 := n0_; have HO271 := n1_; have HB := n2_; have HO274 := n3_; clear n0_ n1_ n2_ n3_; clear ho hb hg hat)))
                    go_roundg kj30
                    case measure => have := HJ4.out; have := HJ8.out; have := HJ23.out; have := HK4.out; have := HJ30.out; omega
                    case rel => exact ⟨(y272), (y269), (wrap64 ((wrap64 (x9_4 + (rd l2 x10_4))) + 1)), (wrap64 (x10_4 + 1)), (by first | rfl | (simp; done) | (simp [*]; done)), (by first | rfl | (simp; done) | (simp [*]; done)), H', ⟨by have := HJ4.out; have := HJ8.out; have := HJ23.out; have := HK4.out; have := HJ30.out; omega⟩, ⟨by (with_reducible repeat (first | apply Kd.R_alloc | apply Kd.R_drewN | apply Kd.R_drew)); exact HO274.out⟩, ⟨by (with_reducible repeat (first | apply Kd.R_alloc | apply Kd.R_drewN | apply Kd.R_drew)); exact HO271.out⟩, ⟨by (with_reducible repeat (first | refine blk_drewN ?_ _ | refine blk_drew ?_ | refine blk_alloc ?_ _)); exact BK251.out⟩, ⟨by repeat (first | (with_reducible first | exact HB.out | apply below_alloc | apply pw_below_drewN | apply below_drew1 | refine below_set ?_ GE251.out) | exact HB.out)⟩⟩
                   ·rw [if_neg c49] at H
                    exact absurd H (by simp)
                  ·rw [if_neg c47] at H
                   exact absurd H (by simp)
                 ·rw [if_neg c46] at H
                  exact absurd H (by simp)
                ·rw [if_neg c45] at H
                 have c45b0 : decide (a0_0 < (rd l2 x10_4)) = false := decide_eq_false c45
                 clear c45
                 by_cases c53 : x10_4 < (a1.size : Int)
                 ·rw [if_pos c53] at H
                  have c53b0 : decide (x10_4 < (a1.size : Int)) = true := decide_eq_true c53
                  clear c53
                  by_cases c55 : x7_4.length < 2199023255552
                  ·rw [if_pos c55] at H
                   have LMc55 := Aside0.mk c55
                   clear c55
                   obtain ⟨y275, hy275⟩ : ∃ y_ : List (S32), y_ = (x7_4 ++ [(⟨3, wrap64 (x9_4 + (rd l2 x10_4)), wrap64 ((wrap64 (x9_4 + (rd l2 x10_4))) + 1), wrap64 (bt a1 x10_4), 0, (⟨#[]⟩ : ByteArray), 0⟩ : S32)]) := ⟨_, rfl⟩
                   replace H : (signalbenchlaw30_ModbusGaps.l0 kj30 a1 l2 y275 x8_4 (wrap64 ((wrap64 (x9_4 + (rd l2 x10_4))) + 1)) (wrap64 (x10_4 + 1)) a0_0) = some r := by first | (rw [hy275]; with_reducible exact H) | (have H2_ := (Option.bind_some _ _).symm.trans H; rw [hy275]; with_reducible exact H2_) | (have H2_ := (Option.bind_some _ _).symm.trans H; with_reducible exact H2_) | with_reducible exact H | (rw [hy275]; exact H) | exact H
                   have Ny275 := Aside0.mk hy275
                   clear hy275
                   have H' := Aside0.mk H
                   clear H
                   have p262 : 0 ≤ (x10_4 : Int) := of_decide_eq_true (by first | (with_reducible assumption) | assumption)
                   have q262 : x10_4 < (l2.length : Int) := of_decide_eq_true (by first | (with_reducible assumption) | assumption)
                   obtain ⟨ad262, e262, hx262_0⟩ := Kd.at_int HR2.out x10_4 p262 q262
                   cases e262
                   replace hx262_0 := (HB.out.cell (World.block_lt_of_cell? w _ hx262_0)).trans hx262_0
                   replace p262 := eq_true p262
                   replace q262 := eq_true q262
                   have hcz56_0 : wc.cell? ⟨gb251, 0, none⟩ = some (.int .i64 a0_0) := (blk_cell BK251.out 0).trans rfl
                   have hfz56_0 := blk_frozen BK251.out 0
                   have p54 : 0 ≤ (x10_4 : Int) := of_decide_eq_true (by first | (with_reducible assumption) | assumption)
                   have q54 : x10_4 < (a1.size : Int) := of_decide_eq_true (by first | (with_reducible assumption) | assumption)
                   have hx54 := bt_at a1 x10_4
                   replace p54 := eq_true p54
                   replace q54 := eq_true q54
                   go_wp2_with (first | ((with_reducible refine gate_builtin (b := .append) (xs := #[.tmp 89, .tmp 98]) rfl ?_); (try (refine gate_guard (by first | rfl | (go_simp; done)) ?_; dsimp only)); at_builtin; refine Kd.R_append k32 (w0 := w) w.heap.size rfl (.tmp 89) (.tmp 98) 24 32 (.agg #[(.int .i64 0), (.int .i64 0), (.int .i64 0), (.int .i64 0), (.int .i64 0), (.string ⟨#[]⟩), (.int .i64 0)]) 64 rfl Tryd.underlying24 info32 rfl (by decide) (by omega) u7 x7_4 (⟨3, wrap64 (x9_4 + (rd l2 x10_4)), wrap64 ((wrap64 (x9_4 + (rd l2 x10_4))) + 1), wrap64 (bt a1 x10_4), 0, (⟨#[]⟩ : ByteArray), 0⟩ : S32) [.int .i64 3, .int .i64 (wrap64 (x9_4 + (rd l2 x10_4))), .int .i64 (wrap64 ((wrap64 (x9_4 + (rd l2 x10_4))) + 1)), .int .i64 (wrap64 (bt a1 x10_4)), .int .i64 0, .string (⟨#[]⟩ : ByteArray), .int .i64 0] (fun _ => True) (fun _ => False) rfl rfl ?aP (fun _ hk => hk.elim) ?aF ?aO ?aB ?aS ?aL ?_; (case aP => exact k32_mkM _ _ _ (⟨3, wrap64 (x9_4 + (rd l2 x10_4)), wrap64 ((wrap64 (x9_4 + (rd l2 x10_4))) + 1), wrap64 (bt a1 x10_4), 0, (⟨#[]⟩ : ByteArray), 0⟩ : S32)); (case aB => exact (hbw HB.out)); (case aF => exact (fun _ _ => trivial)); (case aO => exact (rkw HO_7.out)); (case aS => exact (below_size (hbw HB.out))); (case aL => have := LMc55.out; omega); intro v276 w57 ho hb hg hat; rw [← Ny275.out] at ho; have n0_ := Aside0.mk (Kd.R_over' (rkw HO_8.out) (Kd.R_typed (rkw HO_7.out)) (by decide) hg); have n1_ := Aside0.mk (blkg BK251.out hg (Kd.R_ne HO_7.out BK251.out (by decide))); have n2_ := Aside0.mk (hb); have n3_ := Aside0.mk (ho); clear HO_8; clear BK251; clear HB; clear HO_7; have HO_8 := n0_; have BK251 := n1_; have HB := n2_; have HO277 := n3_; clear n0_ n1_ n2_ n3_; clear ho hb hg hat))
                   repeat (go_quiet (first | ((with_reducible refine gate_builtin (b := .append) (xs := #[.tmp 89, .tmp 98]) rfl ?_); (try (refine gate_guard (by first | rfl | (go_simp; done)) ?_; dsimp only)); at_builtin; refine Kd.R_append k32 (w0 := w) w.heap.size rfl (.tmp 89) (.tmp 98) 24 32 (.agg #[(.int .i64 0), (.int .i64 0), (.int .i64 0), (.int .i64 0), (.int .i64 0), (.string ⟨#[]⟩), (.int .i64 0)]) 64 rfl Tryd.underlying24 info32 rfl (by decide) (by omega) u7 x7_4 (⟨3, wrap64 (x9_4 + (rd l2 x10_4)), wrap64 ((wrap64 (x9_4 + (rd l2 x10_4))) + 1), wrap64 (bt a1 x10_4), 0, (⟨#[]⟩ : ByteArray), 0⟩ : S32) [.int .i64 3, .int .i64 (wrap64 (x9_4 + (rd l2 x10_4))), .int .i64 (wrap64 ((wrap64 (x9_4 + (rd l2 x10_4))) + 1)), .int .i64 (wrap64 (bt a1 x10_4)), .int .i64 0, .string (⟨#[]⟩ : ByteArray), .int .i64 0] (fun _ => True) (fun _ => False) rfl rfl ?aP (fun _ hk => hk.elim) ?aF ?aO ?aB ?aS ?aL ?_; (case aP => exact k32_mkM _ _ _ (⟨3, wrap64 (x9_4 + (rd l2 x10_4)), wrap64 ((wrap64 (x9_4 + (rd l2 x10_4))) + 1), wrap64 (bt a1 x10_4), 0, (⟨#[]⟩ : ByteArray), 0⟩ : S32)); (case aB => exact (hbw HB.out)); (case aF => exact (fun _ _ => trivial)); (case aO => exact (rkw HO_7.out)); (case aS => exact (below_size (hbw HB.out))); (case aL => have := LMc55.out; omega); intro v276 w57 ho hb hg hat; rw [← Ny275.out] at ho; have n0_ := Aside0.mk (Kd.R_over' (rkw HO_8.out) (Kd.R_typed (rkw HO_7.out)) (by decide) hg); have n1_ := Aside0.mk (blkg BK251.out hg (Kd.R_ne HO_7.out BK251.out (by decide))); have n2_ := Aside0.mk (hb); have n3_ := Aside0.mk (ho); clear HO_8; clear BK251; clear HB; clear HO_7; have HO_8 := n0_; have BK251 := n1_; have HB := n2_; have HO277 := n3_; clear n0_ n1_ n2_ n3_; clear ho hb hg hat)); try go_wp2_with (first | ((with_reducible refine gate_builtin (b := .append) (xs := #[.tmp 89, .tmp 98]) rfl ?_); (try (refine gate_guard (by first | rfl | (go_simp; done)) ?_; dsimp only)); at_builtin; refine Kd.R_append k32 (w0 := w) w.heap.size rfl (.tmp 89) (.tmp 98) 24 32 (.agg #[(.int .i64 0), (.int .i64 0), (.int .i64 0), (.int .i64 0), (.int .i64 0), (.string ⟨#[]⟩), (.int .i64 0)]) 64 rfl Tryd.underlying24 info32 rfl (by decide) (by omega) u7 x7_4 (⟨3, wrap64 (x9_4 + (rd l2 x10_4)), wrap64 ((wrap64 (x9_4 + (rd l2 x10_4))) + 1), wrap64 (bt a1 x10_4), 0, (⟨#[]⟩ : ByteArray), 0⟩ : S32) [.int .i64 3, .int .i64 (wrap64 (x9_4 + (rd l2 x10_4))), .int .i64 (wrap64 ((wrap64 (x9_4 + (rd l2 x10_4))) + 1)), .int .i64 (wrap64 (bt a1 x10_4)), .int .i64 0, .string (⟨#[]⟩ : ByteArray), .int .i64 0] (fun _ => True) (fun _ => False) rfl rfl ?aP (fun _ hk => hk.elim) ?aF ?aO ?aB ?aS ?aL ?_; (case aP => exact k32_mkM _ _ _ (⟨3, wrap64 (x9_4 + (rd l2 x10_4)), wrap64 ((wrap64 (x9_4 + (rd l2 x10_4))) + 1), wrap64 (bt a1 x10_4), 0, (⟨#[]⟩ : ByteArray), 0⟩ : S32)); (case aB => exact (hbw HB.out)); (case aF => exact (fun _ _ => trivial)); (case aO => exact (rkw HO_7.out)); (case aS => exact (below_size (hbw HB.out))); (case aL => have := LMc55.out; omega); intro v276 w57 ho hb hg hat; rw [← Ny275.out] at ho; have n0_ := Aside0.mk (Kd.R_over' (rkw HO_8.out) (Kd.R_typed (rkw HO_7.out)) (by decide) hg); have n1_ := Aside0.mk (blkg BK251.out hg (Kd.R_ne HO_7.out BK251.out (by decide))); have n2_ := Aside0.mk (hb); have n3_ := Aside0.mk (ho); clear HO_8; clear BK251; clear HB; clear HO_7; have HO_8 := n0_; have BK251 := n1_; have HB := n2_; have HO277 := n3_; clear n0_ n1_ n2_ n3_; clear ho hb hg hat)))
                   go_roundg kj30
                   case measure => have := HJ4.out; have := HJ8.out; have := HJ23.out; have := HK4.out; have := HJ30.out; omega
                   case rel => exact ⟨(y275), (x8_4), (wrap64 ((wrap64 (x9_4 + (rd l2 x10_4))) + 1)), (wrap64 (x10_4 + 1)), (by first | rfl | (simp; done) | (simp [*]; done)), (by first | rfl | (simp; done) | (simp [*]; done)), H', ⟨by have := HJ4.out; have := HJ8.out; have := HJ23.out; have := HK4.out; have := HJ30.out; omega⟩, ⟨by (with_reducible repeat (first | apply Kd.R_alloc | apply Kd.R_drewN | apply Kd.R_drew)); exact HO277.out⟩, ⟨by (with_reducible repeat (first | apply Kd.R_alloc | apply Kd.R_drewN | apply Kd.R_drew)); exact HO_8.out⟩, ⟨by (with_reducible repeat (first | refine blk_drewN ?_ _ | refine blk_drew ?_ | refine blk_alloc ?_ _)); exact BK251.out⟩, ⟨by repeat (first | (with_reducible first | exact HB.out | apply below_alloc | apply pw_below_drewN | apply below_drew1 | refine below_set ?_ GE251.out) | exact HB.out)⟩⟩
                  ·rw [if_neg c55] at H
                   exact absurd H (by simp)
                 ·rw [if_neg c53] at H
                  exact absurd H (by simp)
              ·rw [if_neg c37] at H
               exact absurd H (by simp)
             ·rw [if_neg c36] at H
              exact absurd H (by simp)
            ·replace c35 := Bool.eq_false_iff.mpr c35
             subst c35
             have H1 : (if x10_4 = 0 then (if x8_4.length < 17592186044416 then (if 0 ≤ x10_4 then (if x10_4 < (a1.size : Int) then (if x7_4.length < 2199023255552 then (signalbenchlaw30_ModbusGaps.l0 kj30 a1 l2 (x7_4 ++ [(⟨3, wrap64 x9_4, wrap64 ((wrap64 x9_4) + 1), wrap64 (bt a1 x10_4), 0, (⟨#[]⟩ : ByteArray), 0⟩ : S32)]) (x8_4 ++ [wrap64 x9_4]) (wrap64 ((wrap64 x9_4) + 1)) (wrap64 (x10_4 + 1)) a0_0) else (none)) else (none)) else (none)) else (none)) else (if 0 > a0_0 then (if x8_4.length < 17592186044416 then (if 0 ≤ x10_4 then (if x10_4 < (a1.size : Int) then (if x7_4.length < 2199023255552 then (signalbenchlaw30_ModbusGaps.l0 kj30 a1 l2 (x7_4 ++ [(⟨3, wrap64 x9_4, wrap64 ((wrap64 x9_4) + 1), wrap64 (bt a1 x10_4), 0, (⟨#[]⟩ : ByteArray), 0⟩ : S32)]) (x8_4 ++ [wrap64 x9_4]) (wrap64 ((wrap64 x9_4) + 1)) (wrap64 (x10_4 + 1)) a0_0) else (none)) else (none)) else (none)) else (none)) else (if 0 ≤ x10_4 then (if x10_4 < (a1.size : Int) then (if x7_4.length < 2199023255552 then (signalbenchlaw30_ModbusGaps.l0 kj30 a1 l2 (x7_4 ++ [(⟨3, wrap64 x9_4, wrap64 ((wrap64 x9_4) + 1), wrap64 (bt a1 x10_4), 0, (⟨#[]⟩ : ByteArray), 0⟩ : S32)]) x8_4 (wrap64 ((wrap64 x9_4) + 1)) (wrap64 (x10_4 + 1)) a0_0) else (none)) else (none)) else (none)))) = some r := by rw [if_neg (show ¬ (false = true) by decide)] at H; simp only [Int.add_zero] at H; exact H
             clear H
             have H := H1
             clear H1
             by_cases c58 : x10_4 = 0
             ·rw [if_pos c58] at H
              have c58b0 : (x10_4 == 0) = true := beq_iff_eq.mpr c58
              have c58b1 : (x10_4 != 0) = false := bne_eq_false_iff_eq.mpr c58
              clear c58
              by_cases c59 : x8_4.length < 17592186044416
              ·rw [if_pos c59] at H
               have LMc59 := Aside0.mk c59
               clear c59
               obtain ⟨y278, hy278⟩ : ∃ y_ : List Int, y_ = (x8_4 ++ [wrap64 x9_4]) := ⟨_, rfl⟩
               replace H : (if 0 ≤ x10_4 then (if x10_4 < (a1.size : Int) then (if x7_4.length < 2199023255552 then (signalbenchlaw30_ModbusGaps.l0 kj30 a1 l2 (x7_4 ++ [(⟨3, wrap64 x9_4, wrap64 ((wrap64 x9_4) + 1), wrap64 (bt a1 x10_4), 0, (⟨#[]⟩ : ByteArray), 0⟩ : S32)]) y278 (wrap64 ((wrap64 x9_4) + 1)) (wrap64 (x10_4 + 1)) a0_0) else (none)) else (none)) else (none)) = some r := by first | (rw [hy278]; with_reducible exact H) | (have H2_ := (Option.bind_some _ _).symm.trans H; rw [hy278]; with_reducible exact H2_) | (have H2_ := (Option.bind_some _ _).symm.trans H; with_reducible exact H2_) | with_reducible exact H | (rw [hy278]; exact H) | exact H
               have Ny278 := Aside0.mk hy278
               clear hy278
               by_cases c60 : 0 ≤ x10_4
               ·rw [if_pos c60] at H
                have c60b0 : decide (0 ≤ x10_4) = true := decide_eq_true c60
                clear c60
                by_cases c61 : x10_4 < (a1.size : Int)
                ·rw [if_pos c61] at H
                 have c61b0 : decide (x10_4 < (a1.size : Int)) = true := decide_eq_true c61
                 clear c61
                 by_cases c63 : x7_4.length < 2199023255552
                 ·rw [if_pos c63] at H
                  have LMc63 := Aside0.mk c63
                  clear c63
                  obtain ⟨y281, hy281⟩ : ∃ y_ : List (S32), y_ = (x7_4 ++ [(⟨3, wrap64 x9_4, wrap64 ((wrap64 x9_4) + 1), wrap64 (bt a1 x10_4), 0, (⟨#[]⟩ : ByteArray), 0⟩ : S32)]) := ⟨_, rfl⟩
                  replace H : (signalbenchlaw30_ModbusGaps.l0 kj30 a1 l2 y281 y278 (wrap64 ((wrap64 x9_4) + 1)) (wrap64 (x10_4 + 1)) a0_0) = some r := by first | (rw [hy281]; with_reducible exact H) | (have H2_ := (Option.bind_some _ _).symm.trans H; rw [hy281]; with_reducible exact H2_) | (have H2_ := (Option.bind_some _ _).symm.trans H; with_reducible exact H2_) | with_reducible exact H | (rw [hy281]; exact H) | exact H
                  have Ny281 := Aside0.mk hy281
                  clear hy281
                  have H' := Aside0.mk H
                  clear H
                  go_wp2_with (first | ((with_reducible refine gate_builtin (b := .append) (xs := #[.tmp 85, .tmp 87]) rfl ?_); (try (refine gate_guard (by first | rfl | (go_simp; done)) ?_; dsimp only)); at_builtin; refine Kd.R_append (Kd.int .i64) (w0 := w) w.heap.size rfl (.tmp 85) (.tmp 87) 52 3 (.int .i64 0) 8 rfl Tryd.underlying52 info3 rfl (by decide) (by omega) u8 x8_4 (wrap64 x9_4) [.int .i64 (wrap64 x9_4)] (fun _ => True) (fun _ => False) rfl rfl ?aP (fun _ hk => hk.elim) ?aF ?aO ?aB ?aS ?aL ?_; (case aP => exact rfl); (case aB => exact (hbw HB.out)); (case aF => exact (fun _ _ => trivial)); (case aO => exact (rkw HO_8.out)); (case aS => exact (below_size (hbw HB.out))); (case aL => have := LMc59.out; omega); intro v279 w64 ho hb hg hat; rw [← Ny278.out] at ho; have n0_ := Aside0.mk (Kd.R_over' (rkw HO_7.out) (Kd.R_typed (rkw HO_8.out)) (by decide) hg); have n1_ := Aside0.mk (blkg BK251.out hg (Kd.R_ne HO_8.out BK251.out (by decide))); have n2_ := Aside0.mk (hb); have n3_ := Aside0.mk (ho); clear HO_7; clear BK251; clear HB; clear HO_8; have HO_7 := n0_; have BK251 := n1_; have HB := n2_; have HO280 := n3_; clear n0_ n1_ n2_ n3_; clear ho hb hg hat; have p62 : 0 ≤ (x10_4 : Int) := of_decide_eq_true (by first | (with_reducible assumption) | assumption); have q62 : x10_4 < (a1.size : Int) := of_decide_eq_true (by first | (with_reducible assumption) | assumption); have hx62 := bt_at a1 x10_4; replace p62 := eq_true p62; replace q62 := eq_true q62) | ((with_reducible refine gate_builtin (b := .append) (xs := #[.tmp 89, .tmp 98]) rfl ?_); (try (refine gate_guard (by first | rfl | (go_simp; done)) ?_; dsimp only)); at_builtin; refine Kd.R_append k32 (w0 := w) w.heap.size rfl (.tmp 89) (.tmp 98) 24 32 (.agg #[(.int .i64 0), (.int .i64 0), (.int .i64 0), (.int .i64 0), (.int .i64 0), (.string ⟨#[]⟩), (.int .i64 0)]) 64 rfl Tryd.underlying24 info32 rfl (by decide) (by omega) u7 x7_4 (⟨3, wrap64 x9_4, wrap64 ((wrap64 x9_4) + 1), wrap64 (bt a1 x10_4), 0, (⟨#[]⟩ : ByteArray), 0⟩ : S32) [.int .i64 3, .int .i64 (wrap64 x9_4), .int .i64 (wrap64 ((wrap64 x9_4) + 1)), .int .i64 (wrap64 (bt a1 x10_4)), .int .i64 0, .string (⟨#[]⟩ : ByteArray), .int .i64 0] (fun _ => True) (fun _ => False) rfl rfl ?aP (fun _ hk => hk.elim) ?aF ?aO ?aB ?aS ?aL ?_; (case aP => exact k32_mkM _ _ _ (⟨3, wrap64 x9_4, wrap64 ((wrap64 x9_4) + 1), wrap64 (bt a1 x10_4), 0, (⟨#[]⟩ : ByteArray), 0⟩ : S32)); (case aB => exact (hbw HB.out)); (case aF => exact (fun _ _ => trivial)); (case aO => exact (rkw HO_7.out)); (case aS => exact (below_size (hbw HB.out))); (case aL => have := LMc63.out; omega); intro v282 w65 ho hb hg hat; rw [← Ny281.out] at ho; have n0_ := Aside0.mk (blkg BK251.out hg (Kd.R_ne HO_7.out BK251.out (by decide))); have n1_ := Aside0.mk (Kd.R_over' (rkw HO280.out) (Kd.R_typed (rkw HO_7.out)) (by decide) hg); have n2_ := Aside0.mk (hb); have n3_ := Aside0.mk (ho); clear BK251; clear HO280; clear HB; clear HO_7; have BK251 := n0_; have HO280 := n1_; have HB := n2_; have HO283 := n3_; clear n0_ n1_ n2_ n3_; clear ho hb hg hat))
                  repeat (go_quiet (first | ((with_reducible refine gate_builtin (b := .append) (xs := #[.tmp 85, .tmp 87]) rfl ?_); (try (refine gate_guard (by first | rfl | (go_simp; done)) ?_; dsimp only)); at_builtin; refine Kd.R_append (Kd.int .i64) (w0 := w) w.heap.size rfl (.tmp 85) (.tmp 87) 52 3 (.int .i64 0) 8 rfl Tryd.underlying52 info3 rfl (by decide) (by omega) u8 x8_4 (wrap64 x9_4) [.int .i64 (wrap64 x9_4)] (fun _ => True) (fun _ => False) rfl rfl ?aP (fun _ hk => hk.elim) ?aF ?aO ?aB ?aS ?aL ?_; (case aP => exact rfl); (case aB => exact (hbw HB.out)); (case aF => exact (fun _ _ => trivial)); (case aO => exact (rkw HO_8.out)); (case aS => exact (below_size (hbw HB.out))); (case aL => have := LMc59.out; omega); intro v279 w64 ho hb hg hat; rw [← Ny278.out] at ho; have n0_ := Aside0.mk (Kd.R_over' (rkw HO_7.out) (Kd.R_typed (rkw HO_8.out)) (by decide) hg); have n1_ := Aside0.mk (blkg BK251.out hg (Kd.R_ne HO_8.out BK251.out (by decide))); have n2_ := Aside0.mk (hb); have n3_ := Aside0.mk (ho); clear HO_7; clear BK251; clear HB; clear HO_8; have HO_7 := n0_; have BK251 := n1_; have HB := n2_; have HO280 := n3_; clear n0_ n1_ n2_ n3_; clear ho hb hg hat; have p62 : 0 ≤ (x10_4 : Int) := of_decide_eq_true (by first | (with_reducible assumption) | assumption); have q62 : x10_4 < (a1.size : Int) := of_decide_eq_true (by first | (with_reducible assumption) | assumption); have hx62 := bt_at a1 x10_4; replace p62 := eq_true p62; replace q62 := eq_true q62) | ((with_reducible refine gate_builtin (b := .append) (xs := #[.tmp 89, .tmp 98]) rfl ?_); (try (refine gate_guard (by first | rfl | (go_simp; done)) ?_; dsimp only)); at_builtin; refine Kd.R_append k32 (w0 := w) w.heap.size rfl (.tmp 89) (.tmp 98) 24 32 (.agg #[(.int .i64 0), (.int .i64 0), (.int .i64 0), (.int .i64 0), (.int .i64 0), (.string ⟨#[]⟩), (.int .i64 0)]) 64 rfl Tryd.underlying24 info32 rfl (by decide) (by omega) u7 x7_4 (⟨3, wrap64 x9_4, wrap64 ((wrap64 x9_4) + 1), wrap64 (bt a1 x10_4), 0, (⟨#[]⟩ : ByteArray), 0⟩ : S32) [.int .i64 3, .int .i64 (wrap64 x9_4), .int .i64 (wrap64 ((wrap64 x9_4) + 1)), .int .i64 (wrap64 (bt a1 x10_4)), .int .i64 0, .string (⟨#[]⟩ : ByteArray), .int .i64 0] (fun _ => True) (fun _ => False) rfl rfl ?aP (fun _ hk => hk.elim) ?aF ?aO ?aB ?aS ?aL ?_; (case aP => exact k32_mkM _ _ _ (⟨3, wrap64 x9_4, wrap64 ((wrap64 x9_4) + 1), wrap64 (bt a1 x10_4), 0, (⟨#[]⟩ : ByteArray), 0⟩ : S32)); (case aB => exact (hbw HB.out)); (case aF => exact (fun _ _ => trivial)); (case aO => exact (rkw HO_7.out)); (case aS => exact (below_size (hbw HB.out))); (case aL => have := LMc63.out; omega); intro v282 w65 ho hb hg hat; rw [← Ny281.out] at ho; have n0_ := Aside0.mk (blkg BK251.out hg (Kd.R_ne HO_7.out BK251.out (by decide))); have n1_ := Aside0.mk (Kd.R_over' (rkw HO280.out) (Kd.R_typed (rkw HO_7.out)) (by decide) hg); have n2_ := Aside0.mk (hb); have n3_ := Aside0.mk (ho); clear BK251; clear HO280; clear HB; clear HO_7; have BK251 := n0_; have HO280 := n1_; have HB := n2_; have HO283 := n3_; clear n0_ n1_ n2_ n3_; clear ho hb hg hat)); try go_wp2_with (first | ((with_reducible refine gate_builtin (b := .append) (xs := #[.tmp 85, .tmp 87]) rfl ?_); (try (refine gate_guard (by first | rfl | (go_simp; done)) ?_; dsimp only)); at_builtin; refine Kd.R_append (Kd.int .i64) (w0 := w) w.heap.size rfl (.tmp 85) (.tmp 87) 52 3 (.int .i64 0) 8 rfl Tryd.underlying52 info3 rfl (by decide) (by omega) u8 x8_4 (wrap64 x9_4) [.int .i64 (wrap64 x9_4)] (fun _ => True) (fun _ => False) rfl rfl ?aP (fun _ hk => hk.elim) ?aF ?aO ?aB ?aS ?aL ?_; (case aP => exact rfl); (case aB => exact (hbw HB.out)); (case aF => exact (fun _ _ => trivial)); (case aO => exact (rkw HO_8.out)); (case aS => exact (below_size (hbw HB.out))); (case aL => have := LMc59.out; omega); intro v279 w64 ho hb hg hat; rw [← Ny278.out] at ho; have n0_ := Aside0.mk (Kd.R_over' (rkw HO_7.out) (Kd.R_typed (rkw HO_8.out)) (by decide) hg); have n1_ := Aside0.mk (blkg BK251.out hg (Kd.R_ne HO_8.out BK251.out (by decide))); have n2_ := Aside0.mk (hb); have n3_ := Aside0.mk (ho); clear HO_7; clear BK251; clear HB; clear HO_8; have HO_7 := n0_; have BK251 := n1_; have HB := n2_; have HO280 := n3_; clear n0_ n1_ n2_ n3_; clear ho hb hg hat; have p62 : 0 ≤ (x10_4 : Int) := of_decide_eq_true (by first | (with_reducible assumption) | assumption); have q62 : x10_4 < (a1.size : Int) := of_decide_eq_true (by first | (with_reducible assumption) | assumption); have hx62 := bt_at a1 x10_4; replace p62 := eq_true p62; replace q62 := eq_true q62) | ((with_reducible refine gate_builtin (b := .append) (xs := #[.tmp 89, .tmp 98]) rfl ?_); (try (refine gate_guard (by first | rfl | (go_simp; done)) ?_; dsimp only)); at_builtin; refine Kd.R_append k32 (w0 := w) w.heap.size rfl (.tmp 89) (.tmp 98) 24 32 (.agg #[(.int .i64 0), (.int .i64 0), (.int .i64 0), (.int .i64 0), (.int .i64 0), (.string ⟨#[]⟩), (.int .i64 0)]) 64 rfl Tryd.underlying24 info32 rfl (by decide) (by omega) u7 x7_4 (⟨3, wrap64 x9_4, wrap64 ((wrap64 x9_4) + 1), wrap64 (bt a1 x10_4), 0, (⟨#[]⟩ : ByteArray), 0⟩ : S32) [.int .i64 3, .int .i64 (wrap64 x9_4), .int .i64 (wrap64 ((wrap64 x9_4) + 1)), .int .i64 (wrap64 (bt a1 x10_4)), .int .i64 0, .string (⟨#[]⟩ : ByteArray), .int .i64 0] (fun _ => True) (fun _ => False) rfl rfl ?aP (fun _ hk => hk.elim) ?aF ?aO ?aB ?aS ?aL ?_; (case aP => exact k32_mkM _ _ _ (⟨3, wrap64 x9_4, wrap64 ((wrap64 x9_4) + 1), wrap64 (bt a1 x10_4), 0, (⟨#[]⟩ : ByteArray), 0⟩ : S32)); (case aB => exact (hbw HB.out)); (case aF => exact (fun _ _ => trivial)); (case aO => exact (rkw HO_7.out)); (case aS => exact (below_size (hbw HB.out))); (case aL => have := LMc63.out; omega); intro v282 w65 ho hb hg hat; rw [← Ny281.out] at ho; have n0_ := Aside0.mk (blkg BK251.out hg (Kd.R_ne HO_7.out BK251.out (by decide))); have n1_ := Aside0.mk (Kd.R_over' (rkw HO280.out) (Kd.R_typed (rkw HO_7.out)) (by decide) hg); have n2_ := Aside0.mk (hb); have n3_ := Aside0.mk (ho); clear BK251; clear HO280; clear HB; clear HO_7; have BK251 := n0_; have HO280 := n1_; have HB := n2_; have HO283 := n3_; clear n0_ n1_ n2_ n3_; clear ho hb hg hat)))
                  go_roundg kj30
                  case measure => have := HJ4.out; have := HJ8.out; have := HJ23.out; have := HK4.out; have := HJ30.out; omega
                  case rel => exact ⟨(y281), (y278), (wrap64 ((wrap64 x9_4) + 1)), (wrap64 (x10_4 + 1)), (by first | rfl | (simp; done) | (simp [*]; done)), (by first | rfl | (simp; done) | (simp [*]; done)), H', ⟨by have := HJ4.out; have := HJ8.out; have := HJ23.out; have := HK4.out; have := HJ30.out; omega⟩, ⟨by (with_reducible repeat (first | apply Kd.R_alloc | apply Kd.R_drewN | apply Kd.R_drew)); exact HO283.out⟩, ⟨by (with_reducible repeat (first | apply Kd.R_alloc | apply Kd.R_drewN | apply Kd.R_drew)); exact HO280.out⟩, ⟨by (with_reducible repeat (first | refine blk_drewN ?_ _ | refine blk_drew ?_ | refine blk_alloc ?_ _)); exact BK251.out⟩, ⟨by repeat (first | (with_reducible first | exact HB.out | apply below_alloc | apply pw_below_drewN | apply below_drew1 | refine below_set ?_ GE251.out) | exact HB.out)⟩⟩
                 ·rw [if_neg c63] at H
                  exact absurd H (by simp)
                ·rw [if_neg c61] at H
                 exact absurd H (by simp)
               ·rw [if_neg c60] at H
                exact absurd H (by simp)
              ·rw [if_neg c59] at H
               exact absurd H (by simp)
             ·rw [if_neg c58] at H
              have c58b0 : (x10_4 == 0) = false := beq_eq_false_iff_ne.mpr c58
              have c58b1 : (x10_4 != 0) = true := bne_iff_ne.mpr c58
              by_cases c66 : 0 > a0_0
              ·rw [if_pos c66] at H
               have c66b0 : decide (a0_0 < 0) = true := decide_eq_true c66
               clear c66
               by_cases c67 : x8_4.length < 17592186044416
               ·rw [if_pos c67] at H
                have LMc67 := Aside0.mk c67
                clear c67
                obtain ⟨y284, hy284⟩ : ∃ y_ : List Int, y_ = (x8_4 ++ [wrap64 x9_4]) := ⟨_, rfl⟩
                replace H : (if 0 ≤ x10_4 then (if x10_4 < (a1.size : Int) then (if x7_4.length < 2199023255552 then (signalbenchlaw30_ModbusGaps.l0 kj30 a1 l2 (x7_4 ++ [(⟨3, wrap64 x9_4, wrap64 ((wrap64 x9_4) + 1), wrap64 (bt a1 x10_4), 0, (⟨#[]⟩ : ByteArray), 0⟩ : S32)]) y284 (wrap64 ((wrap64 x9_4) + 1)) (wrap64 (x10_4 + 1)) a0_0) else (none)) else (none)) else (none)) = some r := by first | (rw [hy284]; with_reducible exact H) | (have H2_ := (Option.bind_some _ _).symm.trans H; rw [hy284]; with_reducible exact H2_) | (have H2_ := (Option.bind_some _ _).symm.trans H; with_reducible exact H2_) | with_reducible exact H | (rw [hy284]; exact H) | exact H
                have Ny284 := Aside0.mk hy284
                clear hy284
                by_cases c68 : 0 ≤ x10_4
                ·rw [if_pos c68] at H
                 have c68b0 : decide (0 ≤ x10_4) = true := decide_eq_true c68
                 clear c68
                 by_cases c69 : x10_4 < (a1.size : Int)
                 ·rw [if_pos c69] at H
                  have c69b0 : decide (x10_4 < (a1.size : Int)) = true := decide_eq_true c69
                  clear c69
                  by_cases c71 : x7_4.length < 2199023255552
                  ·rw [if_pos c71] at H
                   have LMc71 := Aside0.mk c71
                   clear c71
                   obtain ⟨y287, hy287⟩ : ∃ y_ : List (S32), y_ = (x7_4 ++ [(⟨3, wrap64 x9_4, wrap64 ((wrap64 x9_4) + 1), wrap64 (bt a1 x10_4), 0, (⟨#[]⟩ : ByteArray), 0⟩ : S32)]) := ⟨_, rfl⟩
                   replace H : (signalbenchlaw30_ModbusGaps.l0 kj30 a1 l2 y287 y284 (wrap64 ((wrap64 x9_4) + 1)) (wrap64 (x10_4 + 1)) a0_0) = some r := by first | (rw [hy287]; with_reducible exact H) | (have H2_ := (Option.bind_some _ _).symm.trans H; rw [hy287]; with_reducible exact H2_) | (have H2_ := (Option.bind_some _ _).symm.trans H; with_reducible exact H2_) | with_reducible exact H | (rw [hy287]; exact H) | exact H
                   have Ny287 := Aside0.mk hy287
                   clear hy287
                   have H' := Aside0.mk H
                   clear H
                   have hcz72_0 : wc.cell? ⟨gb251, 0, none⟩ = some (.int .i64 a0_0) := (blk_cell BK251.out 0).trans rfl
                   have hfz72_0 := blk_frozen BK251.out 0
                   go_wp2_with (first | ((with_reducible refine gate_builtin (b := .append) (xs := #[.tmp 85, .tmp 87]) rfl ?_); (try (refine gate_guard (by first | rfl | (go_simp; done)) ?_; dsimp only)); at_builtin; refine Kd.R_append (Kd.int .i64) (w0 := w) w.heap.size rfl (.tmp 85) (.tmp 87) 52 3 (.int .i64 0) 8 rfl Tryd.underlying52 info3 rfl (by decide) (by omega) u8 x8_4 (wrap64 x9_4) [.int .i64 (wrap64 x9_4)] (fun _ => True) (fun _ => False) rfl rfl ?aP (fun _ hk => hk.elim) ?aF ?aO ?aB ?aS ?aL ?_; (case aP => exact rfl); (case aB => exact (hbw HB.out)); (case aF => exact (fun _ _ => trivial)); (case aO => exact (rkw HO_8.out)); (case aS => exact (below_size (hbw HB.out))); (case aL => have := LMc67.out; omega); intro v285 w73 ho hb hg hat; rw [← Ny284.out] at ho; have n0_ := Aside0.mk (Kd.R_over' (rkw HO_7.out) (Kd.R_typed (rkw HO_8.out)) (by decide) hg); have n1_ := Aside0.mk (blkg BK251.out hg (Kd.R_ne HO_8.out BK251.out (by decide))); have n2_ := Aside0.mk (hb); have n3_ := Aside0.mk (ho); clear HO_7; clear BK251; clear HB; clear HO_8; have HO_7 := n0_; have BK251 := n1_; have HB := n2_; have HO286 := n3_; clear n0_ n1_ n2_ n3_; clear ho hb hg hat; have p70 : 0 ≤ (x10_4 : Int) := of_decide_eq_true (by first | (with_reducible assumption) | assumption); have q70 : x10_4 < (a1.size : Int) := of_decide_eq_true (by first | (with_reducible assumption) | assumption); have hx70 := bt_at a1 x10_4; replace p70 := eq_true p70; replace q70 := eq_true q70) | ((with_reducible refine gate_builtin (b := .append) (xs := #[.tmp 89, .tmp 98]) rfl ?_); (try (refine gate_guard (by first | rfl | (go_simp; done)) ?_; dsimp only)); at_builtin; refine Kd.R_append k32 (w0 := w) w.heap.size rfl (.tmp 89) (.tmp 98) 24 32 (.agg #[(.int .i64 0), (.int .i64 0), (.int .i64 0), (.int .i64 0), (.int .i64 0), (.string ⟨#[]⟩), (.int .i64 0)]) 64 rfl Tryd.underlying24 info32 rfl (by decide) (by omega) u7 x7_4 (⟨3, wrap64 x9_4, wrap64 ((wrap64 x9_4) + 1), wrap64 (bt a1 x10_4), 0, (⟨#[]⟩ : ByteArray), 0⟩ : S32) [.int .i64 3, .int .i64 (wrap64 x9_4), .int .i64 (wrap64 ((wrap64 x9_4) + 1)), .int .i64 (wrap64 (bt a1 x10_4)), .int .i64 0, .string (⟨#[]⟩ : ByteArray), .int .i64 0] (fun _ => True) (fun _ => False) rfl rfl ?aP (fun _ hk => hk.elim) ?aF ?aO ?aB ?aS ?aL ?_; (case aP => exact k32_mkM _ _ _ (⟨3, wrap64 x9_4, wrap64 ((wrap64 x9_4) + 1), wrap64 (bt a1 x10_4), 0, (⟨#[]⟩ : ByteArray), 0⟩ : S32)); (case aB => exact (hbw HB.out)); (case aF => exact (fun _ _ => trivial)); (case aO => exact (rkw HO_7.out)); (case aS => exact (below_size (hbw HB.out))); (case aL => have := LMc71.out; omega); intro v288 w74 ho hb hg hat; rw [← Ny287.out] at ho; have n0_ := Aside0.mk (blkg BK251.out hg (Kd.R_ne HO_7.out BK251.out (by decide))); have n1_ := Aside0.mk (Kd.R_over' (rkw HO286.out) (Kd.R_typed (rkw HO_7.out)) (by decide) hg); have n2_ := Aside0.mk (hb); have n3_ := Aside0.mk (ho); clear BK251; clear HO286; clear HB; clear HO_7; have BK251 := n0_; have HO286 := n1_; have HB := n2_; have HO289 := n3_; clear n0_ n1_ n2_ n3_; clear ho hb hg hat))
                   repeat (go_quiet (first | ((with_reducible refine gate_builtin (b := .append) (xs := #[.tmp 85, .tmp 87]) rfl ?_); (try (refine gate_guard (by first | rfl | (go_simp; done)) ?_; dsimp only)); at_builtin; refine Kd.R_append (Kd.int .i64) (w0 := w) w.heap.size rfl (.tmp 85) (.tmp 87) 52 3 (.int .i64 0) 8 rfl Tryd.underlying52 info3 rfl (by decide) (by omega) u8 x8_4 (wrap64 x9_4) [.int .i64 (wrap64 x9_4)] (fun _ => True) (fun _ => False) rfl rfl ?aP (fun _ hk => hk.elim) ?aF ?aO ?aB ?aS ?aL ?_; (case aP => exact rfl); (case aB => exact (hbw HB.out)); (case aF => exact (fun _ _ => trivial)); (case aO => exact (rkw HO_8.out)); (case aS => exact (below_size (hbw HB.out))); (case aL => have := LMc67.out; omega); intro v285 w73 ho hb hg hat; rw [← Ny284.out] at ho; have n0_ := Aside0.mk (Kd.R_over' (rkw HO_7.out) (Kd.R_typed (rkw HO_8.out)) (by decide) hg); have n1_ := Aside0.mk (blkg BK251.out hg (Kd.R_ne HO_8.out BK251.out (by decide))); have n2_ := Aside0.mk (hb); have n3_ := Aside0.mk (ho); clear HO_7; clear BK251; clear HB; clear HO_8; have HO_7 := n0_; have BK251 := n1_; have HB := n2_; have HO286 := n3_; clear n0_ n1_ n2_ n3_; clear ho hb hg hat; have p70 : 0 ≤ (x10_4 : Int) := of_decide_eq_true (by first | (with_reducible assumption) | assumption); have q70 : x10_4 < (a1.size : Int) := of_decide_eq_true (by first | (with_reducible assumption) | assumption); have hx70 := bt_at a1 x10_4; replace p70 := eq_true p70; replace q70 := eq_true q70) | ((with_reducible refine gate_builtin (b := .append) (xs := #[.tmp 89, .tmp 98]) rfl ?_); (try (refine gate_guard (by first | rfl | (go_simp; done)) ?_; dsimp only)); at_builtin; refine Kd.R_append k32 (w0 := w) w.heap.size rfl (.tmp 89) (.tmp 98) 24 32 (.agg #[(.int .i64 0), (.int .i64 0), (.int .i64 0), (.int .i64 0), (.int .i64 0), (.string ⟨#[]⟩), (.int .i64 0)]) 64 rfl Tryd.underlying24 info32 rfl (by decide) (by omega) u7 x7_4 (⟨3, wrap64 x9_4, wrap64 ((wrap64 x9_4) + 1), wrap64 (bt a1 x10_4), 0, (⟨#[]⟩ : ByteArray), 0⟩ : S32) [.int .i64 3, .int .i64 (wrap64 x9_4), .int .i64 (wrap64 ((wrap64 x9_4) + 1)), .int .i64 (wrap64 (bt a1 x10_4)), .int .i64 0, .string (⟨#[]⟩ : ByteArray), .int .i64 0] (fun _ => True) (fun _ => False) rfl rfl ?aP (fun _ hk => hk.elim) ?aF ?aO ?aB ?aS ?aL ?_; (case aP => exact k32_mkM _ _ _ (⟨3, wrap64 x9_4, wrap64 ((wrap64 x9_4) + 1), wrap64 (bt a1 x10_4), 0, (⟨#[]⟩ : ByteArray), 0⟩ : S32)); (case aB => exact (hbw HB.out)); (case aF => exact (fun _ _ => trivial)); (case aO => exact (rkw HO_7.out)); (case aS => exact (below_size (hbw HB.out))); (case aL => have := LMc71.out; omega); intro v288 w74 ho hb hg hat; rw [← Ny287.out] at ho; have n0_ := Aside0.mk (blkg BK251.out hg (Kd.R_ne HO_7.out BK251.out (by decide))); have n1_ := Aside0.mk (Kd.R_over' (rkw HO286.out) (Kd.R_typed (rkw HO_7.out)) (by decide) hg); have n2_ := Aside0.mk (hb); have n3_ := Aside0.mk (ho); clear BK251; clear HO286; clear HB; clear HO_7; have BK251 := n0_; have HO286 := n1_; have HB := n2_; have HO289 := n3_; clear n0_ n1_ n2_ n3_; clear ho hb hg hat)); try go_wp2_with (first | ((with_reducible refine gate_builtin (b := .append) (xs := #[.tmp 85, .tmp 87]) rfl ?_); (try (refine gate_guard (by first | rfl | (go_simp; done)) ?_; dsimp only)); at_builtin; refine Kd.R_append (Kd.int .i64) (w0 := w) w.heap.size rfl (.tmp 85) (.tmp 87) 52 3 (.int .i64 0) 8 rfl Tryd.underlying52 info3 rfl (by decide) (by omega) u8 x8_4 (wrap64 x9_4) [.int .i64 (wrap64 x9_4)] (fun _ => True) (fun _ => False) rfl rfl ?aP (fun _ hk => hk.elim) ?aF ?aO ?aB ?aS ?aL ?_; (case aP => exact rfl); (case aB => exact (hbw HB.out)); (case aF => exact (fun _ _ => trivial)); (case aO => exact (rkw HO_8.out)); (case aS => exact (below_size (hbw HB.out))); (case aL => have := LMc67.out; omega); intro v285 w73 ho hb hg hat; rw [← Ny284.out] at ho; have n0_ := Aside0.mk (Kd.R_over' (rkw HO_7.out) (Kd.R_typed (rkw HO_8.out)) (by decide) hg); have n1_ := Aside0.mk (blkg BK251.out hg (Kd.R_ne HO_8.out BK251.out (by decide))); have n2_ := Aside0.mk (hb); have n3_ := Aside0.mk (ho); clear HO_7; clear BK251; clear HB; clear HO_8; have HO_7 := n0_; have BK251 := n1_; have HB := n2_; have HO286 := n3_; clear n0_ n1_ n2_ n3_; clear ho hb hg hat; have p70 : 0 ≤ (x10_4 : Int) := of_decide_eq_true (by first | (with_reducible assumption) | assumption); have q70 : x10_4 < (a1.size : Int) := of_decide_eq_true (by first | (with_reducible assumption) | assumption); have hx70 := bt_at a1 x10_4; replace p70 := eq_true p70; replace q70 := eq_true q70) | ((with_reducible refine gate_builtin (b := .append) (xs := #[.tmp 89, .tmp 98]) rfl ?_); (try (refine gate_guard (by first | rfl | (go_simp; done)) ?_; dsimp only)); at_builtin; refine Kd.R_append k32 (w0 := w) w.heap.size rfl (.tmp 89) (.tmp 98) 24 32 (.agg #[(.int .i64 0), (.int .i64 0), (.int .i64 0), (.int .i64 0), (.int .i64 0), (.string ⟨#[]⟩), (.int .i64 0)]) 64 rfl Tryd.underlying24 info32 rfl (by decide) (by omega) u7 x7_4 (⟨3, wrap64 x9_4, wrap64 ((wrap64 x9_4) + 1), wrap64 (bt a1 x10_4), 0, (⟨#[]⟩ : ByteArray), 0⟩ : S32) [.int .i64 3, .int .i64 (wrap64 x9_4), .int .i64 (wrap64 ((wrap64 x9_4) + 1)), .int .i64 (wrap64 (bt a1 x10_4)), .int .i64 0, .string (⟨#[]⟩ : ByteArray), .int .i64 0] (fun _ => True) (fun _ => False) rfl rfl ?aP (fun _ hk => hk.elim) ?aF ?aO ?aB ?aS ?aL ?_; (case aP => exact k32_mkM _ _ _ (⟨3, wrap64 x9_4, wrap64 ((wrap64 x9_4) + 1), wrap64 (bt a1 x10_4), 0, (⟨#[]⟩ : ByteArray), 0⟩ : S32)); (case aB => exact (hbw HB.out)); (case aF => exact (fun _ _ => trivial)); (case aO => exact (rkw HO_7.out)); (case aS => exact (below_size (hbw HB.out))); (case aL => have := LMc71.out; omega); intro v288 w74 ho hb hg hat; rw [← Ny287.out] at ho; have n0_ := Aside0.mk (blkg BK251.out hg (Kd.R_ne HO_7.out BK251.out (by decide))); have n1_ := Aside0.mk (Kd.R_over' (rkw HO286.out) (Kd.R_typed (rkw HO_7.out)) (by decide) hg); have n2_ := Aside0.mk (hb); have n3_ := Aside0.mk (ho); clear BK251; clear HO286; clear HB; clear HO_7; have BK251 := n0_; have HO286 := n1_; have HB := n2_; have HO289 := n3_; clear n0_ n1_ n2_ n3_; clear ho hb hg hat)))
                   go_roundg kj30
                   case measure => have := HJ4.out; have := HJ8.out; have := HJ23.out; have := HK4.out; have := HJ30.out; omega
                   case rel => exact ⟨(y287), (y284), (wrap64 ((wrap64 x9_4) + 1)), (wrap64 (x10_4 + 1)), (by first | rfl | (simp; done) | (simp [*]; done)), (by first | rfl | (simp; done) | (simp [*]; done)), H', ⟨by have := HJ4.out; have := HJ8.out; have := HJ23.out; have := HK4.out; have := HJ30.out; omega⟩, ⟨by (with_reducible repeat (first | apply Kd.R_alloc | apply Kd.R_drewN | apply Kd.R_drew)); exact HO289.out⟩, ⟨by (with_reducible repeat (first | apply Kd.R_alloc | apply Kd.R_drewN | apply Kd.R_drew)); exact HO286.out⟩, ⟨by (with_reducible repeat (first | refine blk_drewN ?_ _ | refine blk_drew ?_ | refine blk_alloc ?_ _)); exact BK251.out⟩, ⟨by repeat (first | (with_reducible first | exact HB.out | apply below_alloc | apply pw_below_drewN | apply below_drew1 | refine below_set ?_ GE251.out) | exact HB.out)⟩⟩
                  ·rw [if_neg c71] at H
                   exact absurd H (by simp)
                 ·rw [if_neg c69] at H
                  exact absurd H (by simp)
                ·rw [if_neg c68] at H
                 exact absurd H (by simp)
               ·rw [if_neg c67] at H
                exact absurd H (by simp)
              ·rw [if_neg c66] at H
               have c66b0 : decide (a0_0 < 0) = false := decide_eq_false c66
               clear c66
               by_cases c75 : 0 ≤ x10_4
               ·rw [if_pos c75] at H
                have c75b0 : decide (0 ≤ x10_4) = true := decide_eq_true c75
                clear c75
                by_cases c76 : x10_4 < (a1.size : Int)
                ·rw [if_pos c76] at H
                 have c76b0 : decide (x10_4 < (a1.size : Int)) = true := decide_eq_true c76
                 clear c76
                 by_cases c78 : x7_4.length < 2199023255552
                 ·rw [if_pos c78] at H
                  have LMc78 := Aside0.mk c78
                  clear c78
                  obtain ⟨y290, hy290⟩ : ∃ y_ : List (S32), y_ = (x7_4 ++ [(⟨3, wrap64 x9_4, wrap64 ((wrap64 x9_4) + 1), wrap64 (bt a1 x10_4), 0, (⟨#[]⟩ : ByteArray), 0⟩ : S32)]) := ⟨_, rfl⟩
                  replace H : (signalbenchlaw30_ModbusGaps.l0 kj30 a1 l2 y290 x8_4 (wrap64 ((wrap64 x9_4) + 1)) (wrap64 (x10_4 + 1)) a0_0) = some r := by first | (rw [hy290]; with_reducible exact H) | (have H2_ := (Option.bind_some _ _).symm.trans H; rw [hy290]; with_reducible exact H2_) | (have H2_ := (Option.bind_some _ _).symm.trans H; with_reducible exact H2_) | with_reducible exact H | (rw [hy290]; exact H) | exact H
                  have Ny290 := Aside0.mk hy290
                  clear hy290
                  have H' := Aside0.mk H
                  clear H
                  have hcz79_0 : wc.cell? ⟨gb251, 0, none⟩ = some (.int .i64 a0_0) := (blk_cell BK251.out 0).trans rfl
                  have hfz79_0 := blk_frozen BK251.out 0
                  have p77 : 0 ≤ (x10_4 : Int) := of_decide_eq_true (by first | (with_reducible assumption) | assumption)
                  have q77 : x10_4 < (a1.size : Int) := of_decide_eq_true (by first | (with_reducible assumption) | assumption)
                  have hx77 := bt_at a1 x10_4
                  replace p77 := eq_true p77
                  replace q77 := eq_true q77
                  go_wp2_with (first | ((with_reducible refine gate_builtin (b := .append) (xs := #[.tmp 89, .tmp 98]) rfl ?_); (try (refine gate_guard (by first | rfl | (go_simp; done)) ?_; dsimp only)); at_builtin; refine Kd.R_append k32 (w0 := w) w.heap.size rfl (.tmp 89) (.tmp 98) 24 32 (.agg #[(.int .i64 0), (.int .i64 0), (.int .i64 0), (.int .i64 0), (.int .i64 0), (.string ⟨#[]⟩), (.int .i64 0)]) 64 rfl Tryd.underlying24 info32 rfl (by decide) (by omega) u7 x7_4 (⟨3, wrap64 x9_4, wrap64 ((wrap64 x9_4) + 1), wrap64 (bt a1 x10_4), 0, (⟨#[]⟩ : ByteArray), 0⟩ : S32) [.int .i64 3, .int .i64 (wrap64 x9_4), .int .i64 (wrap64 ((wrap64 x9_4) + 1)), .int .i64 (wrap64 (bt a1 x10_4)), .int .i64 0, .string (⟨#[]⟩ : ByteArray), .int .i64 0] (fun _ => True) (fun _ => False) rfl rfl ?aP (fun _ hk => hk.elim) ?aF ?aO ?aB ?aS ?aL ?_; (case aP => exact k32_mkM _ _ _ (⟨3, wrap64 x9_4, wrap64 ((wrap64 x9_4) + 1), wrap64 (bt a1 x10_4), 0, (⟨#[]⟩ : ByteArray), 0⟩ : S32)); (case aB => exact (hbw HB.out)); (case aF => exact (fun _ _ => trivial)); (case aO => exact (rkw HO_7.out)); (case aS => exact (below_size (hbw HB.out))); (case aL => have := LMc78.out; omega); intro v291 w80 ho hb hg hat; rw [← Ny290.out] at ho; have n0_ := Aside0.mk (Kd.R_over' (rkw HO_8.out) (Kd.R_typed (rkw HO_7.out)) (by decide) hg); have n1_ := Aside0.mk (blkg BK251.out hg (Kd.R_ne HO_7.out BK251.out (by decide))); have n2_ := Aside0.mk (hb); have n3_ := Aside0.mk (ho); clear HO_8; clear BK251; clear HB; clear HO_7; have HO_8 := n0_; have BK251 := n1_; have HB := n2_; have HO292 := n3_; clear n0_ n1_ n2_ n3_; clear ho hb hg hat))
                  repeat (go_quiet (first | ((with_reducible refine gate_builtin (b := .append) (xs := #[.tmp 89, .tmp 98]) rfl ?_); (try (refine gate_guard (by first | rfl | (go_simp; done)) ?_; dsimp only)); at_builtin; refine Kd.R_append k32 (w0 := w) w.heap.size rfl (.tmp 89) (.tmp 98) 24 32 (.agg #[(.int .i64 0), (.int .i64 0), (.int .i64 0), (.int .i64 0), (.int .i64 0), (.string ⟨#[]⟩), (.int .i64 0)]) 64 rfl Tryd.underlying24 info32 rfl (by decide) (by omega) u7 x7_4 (⟨3, wrap64 x9_4, wrap64 ((wrap64 x9_4) + 1), wrap64 (bt a1 x10_4), 0, (⟨#[]⟩ : ByteArray), 0⟩ : S32) [.int .i64 3, .int .i64 (wrap64 x9_4), .int .i64 (wrap64 ((wrap64 x9_4) + 1)), .int .i64 (wrap64 (bt a1 x10_4)), .int .i64 0, .string (⟨#[]⟩ : ByteArray), .int .i64 0] (fun _ => True) (fun _ => False) rfl rfl ?aP (fun _ hk => hk.elim) ?aF ?aO ?aB ?aS ?aL ?_; (case aP => exact k32_mkM _ _ _ (⟨3, wrap64 x9_4, wrap64 ((wrap64 x9_4) + 1), wrap64 (bt a1 x10_4), 0, (⟨#[]⟩ : ByteArray), 0⟩ : S32)); (case aB => exact (hbw HB.out)); (case aF => exact (fun _ _ => trivial)); (case aO => exact (rkw HO_7.out)); (case aS => exact (below_size (hbw HB.out))); (case aL => have := LMc78.out; omega); intro v291 w80 ho hb hg hat; rw [← Ny290.out] at ho; have n0_ := Aside0.mk (Kd.R_over' (rkw HO_8.out) (Kd.R_typed (rkw HO_7.out)) (by decide) hg); have n1_ := Aside0.mk (blkg BK251.out hg (Kd.R_ne HO_7.out BK251.out (by decide))); have n2_ := Aside0.mk (hb); have n3_ := Aside0.mk (ho); clear HO_8; clear BK251; clear HB; clear HO_7; have HO_8 := n0_; have BK251 := n1_; have HB := n2_; have HO292 := n3_; clear n0_ n1_ n2_ n3_; clear ho hb hg hat)); try go_wp2_with (first | ((with_reducible refine gate_builtin (b := .append) (xs := #[.tmp 89, .tmp 98]) rfl ?_); (try (refine gate_guard (by first | rfl | (go_simp; done)) ?_; dsimp only)); at_builtin; refine Kd.R_append k32 (w0 := w) w.heap.size rfl (.tmp 89) (.tmp 98) 24 32 (.agg #[(.int .i64 0), (.int .i64 0), (.int .i64 0), (.int .i64 0), (.int .i64 0), (.string ⟨#[]⟩), (.int .i64 0)]) 64 rfl Tryd.underlying24 info32 rfl (by decide) (by omega) u7 x7_4 (⟨3, wrap64 x9_4, wrap64 ((wrap64 x9_4) + 1), wrap64 (bt a1 x10_4), 0, (⟨#[]⟩ : ByteArray), 0⟩ : S32) [.int .i64 3, .int .i64 (wrap64 x9_4), .int .i64 (wrap64 ((wrap64 x9_4) + 1)), .int .i64 (wrap64 (bt a1 x10_4)), .int .i64 0, .string (⟨#[]⟩ : ByteArray), .int .i64 0] (fun _ => True) (fun _ => False) rfl rfl ?aP (fun _ hk => hk.elim) ?aF ?aO ?aB ?aS ?aL ?_; (case aP => exact k32_mkM _ _ _ (⟨3, wrap64 x9_4, wrap64 ((wrap64 x9_4) + 1), wrap64 (bt a1 x10_4), 0, (⟨#[]⟩ : ByteArray), 0⟩ : S32)); (case aB => exact (hbw HB.out)); (case aF => exact (fun _ _ => trivial)); (case aO => exact (rkw HO_7.out)); (case aS => exact (below_size (hbw HB.out))); (case aL => have := LMc78.out; omega); intro v291 w80 ho hb hg hat; rw [← Ny290.out] at ho; have n0_ := Aside0.mk (Kd.R_over' (rkw HO_8.out) (Kd.R_typed (rkw HO_7.out)) (by decide) hg); have n1_ := Aside0.mk (blkg BK251.out hg (Kd.R_ne HO_7.out BK251.out (by decide))); have n2_ := Aside0.mk (hb); have n3_ := Aside0.mk (ho); clear HO_8; clear BK251; clear HB; clear HO_7; have HO_8 := n0_; have BK251 := n1_; have HB := n2_; have HO292 := n3_; clear n0_ n1_ n2_ n3_; clear ho hb hg hat)))
                  go_roundg kj30
                  case measure => have := HJ4.out; have := HJ8.out; have := HJ23.out; have := HK4.out; have := HJ30.out; omega
                  case rel => exact ⟨(y290), (x8_4), (wrap64 ((wrap64 x9_4) + 1)), (wrap64 (x10_4 + 1)), (by first | rfl | (simp; done) | (simp [*]; done)), (by first | rfl | (simp; done) | (simp [*]; done)), H', ⟨by have := HJ4.out; have := HJ8.out; have := HJ23.out; have := HK4.out; have := HJ30.out; omega⟩, ⟨by (with_reducible repeat (first | apply Kd.R_alloc | apply Kd.R_drewN | apply Kd.R_drew)); exact HO292.out⟩, ⟨by (with_reducible repeat (first | apply Kd.R_alloc | apply Kd.R_drewN | apply Kd.R_drew)); exact HO_8.out⟩, ⟨by (with_reducible repeat (first | refine blk_drewN ?_ _ | refine blk_drew ?_ | refine blk_alloc ?_ _)); exact BK251.out⟩, ⟨by repeat (first | (with_reducible first | exact HB.out | apply below_alloc | apply pw_below_drewN | apply below_drew1 | refine below_set ?_ GE251.out) | exact HB.out)⟩⟩
                 ·rw [if_neg c78] at H
                  exact absurd H (by simp)
                ·rw [if_neg c76] at H
                 exact absurd H (by simp)
               ·rw [if_neg c75] at H
                exact absurd H (by simp)
         ·rw [if_neg c30] at H
          have c30b0 : decide (x10_4 < (a1.size : Int)) = false := decide_eq_false c30
          clear c30
          replace H := Option.bind_eq_some_iff.mp H
          obtain ⟨t293, A810, H⟩ := H
          replace H : (if (t293.length : Int) = (x8_4.length : Int) then (signalbenchlaw30_ModbusGaps.j5 k4 x8_4 x9_4 t293) else (some false)) = some r := H
          have A81 := Aside0.mk A810
          clear A810
          have HC82 := Aside0.mk H
          clear H
          have hcz83_0 : wr.cell? ⟨gb251, 0, none⟩ = some (.int .i64 a0_0) := (blk_cell BK251.out 0).trans rfl
          have hfz83_0 := blk_frozen BK251.out 0
          obtain ⟨Ao84, co84, eo84⟩ := Kd.R_slice HO_7.out
          subst eo84
          go_upto_if 109 with (first | (go_at_call 18; (with_reducible refine (modbus_Decode.calls k4 a0_0 _ _ x7_4 t293 _ ?side1 ?side2 ?side3 A81.out).mono ?_); (case side1 => refine TabOk.below hT_ ?_; repeat (first | (with_reducible first | exact HB.out | apply below_alloc | apply pw_below_drewN | apply below_drew1 | refine below_set ?_ GE251.out) | exact HB.out)); (case side2 => repeat (first | exact (Kd.R_reads' HO_7.out).2.2 | (with_reducible refine Kd.C_alloc ?_ _) | (with_reducible refine Kd.C_drewN ?_ _) | (with_reducible refine Kd.C_drew ?_))); (case side3 => exact (Kd.R_reads' HO_7.out).2.1); rintro e w85 ⟨v294, rfl, ho0, hb⟩; have n0_ := Aside0.mk (Kd.R_elder' (rkw HO_7.out) (Kd.R_base ho0) hb); have n1_ := Aside0.mk (Kd.R_below (rkw HO_8.out) hb); have n2_ := Aside0.mk (Kd.R_lower (Kd.R_new' ho0 (Kd.R_lt (rkw HO_7.out))) (below_size (hbw HB.out))); have n3_ := Aside0.mk (blkb BK251.out hb); have n4_ := Aside0.mk (below_step (hbw HB.out) hb); clear HO_7; clear HO_8; clear BK251; clear HB; have HO_7 := n0_; have HO_8 := n1_; have HO295 := n2_; have BK251 := n3_; have HB := n4_; clear n0_ n1_ n2_ n3_ n4_; (try clear hb); (try clear hb2); (try clear hk); (try clear hi); (try clear ho0); obtain ⟨Ao86, co86, eo86⟩ := Kd.R_slice HO295.out; subst eo86; obtain ⟨Ao87, co87, eo87⟩ := Kd.R_slice HO_8.out; subst eo87))
          repeat (go_quiet (first | (go_at_call 18; (with_reducible refine (modbus_Decode.calls k4 a0_0 _ _ x7_4 t293 _ ?side1 ?side2 ?side3 A81.out).mono ?_); (case side1 => refine TabOk.below hT_ ?_; repeat (first | (with_reducible first | exact HB.out | apply below_alloc | apply pw_below_drewN | apply below_drew1 | refine below_set ?_ GE251.out) | exact HB.out)); (case side2 => repeat (first | exact (Kd.R_reads' HO_7.out).2.2 | (with_reducible refine Kd.C_alloc ?_ _) | (with_reducible refine Kd.C_drewN ?_ _) | (with_reducible refine Kd.C_drew ?_))); (case side3 => exact (Kd.R_reads' HO_7.out).2.1); rintro e w85 ⟨v294, rfl, ho0, hb⟩; have n0_ := Aside0.mk (Kd.R_elder' (rkw HO_7.out) (Kd.R_base ho0) hb); have n1_ := Aside0.mk (Kd.R_below (rkw HO_8.out) hb); have n2_ := Aside0.mk (Kd.R_lower (Kd.R_new' ho0 (Kd.R_lt (rkw HO_7.out))) (below_size (hbw HB.out))); have n3_ := Aside0.mk (blkb BK251.out hb); have n4_ := Aside0.mk (below_step (hbw HB.out) hb); clear HO_7; clear HO_8; clear BK251; clear HB; have HO_7 := n0_; have HO_8 := n1_; have HO295 := n2_; have BK251 := n3_; have HB := n4_; clear n0_ n1_ n2_ n3_ n4_; (try clear hb); (try clear hb2); (try clear hk); (try clear hi); (try clear ho0); obtain ⟨Ao86, co86, eo86⟩ := Kd.R_slice HO295.out; subst eo86; obtain ⟨Ao87, co87, eo87⟩ := Kd.R_slice HO_8.out; subst eo87)); go_upto_if 109 with (first | (go_at_call 18; (with_reducible refine (modbus_Decode.calls k4 a0_0 _ _ x7_4 t293 _ ?side1 ?side2 ?side3 A81.out).mono ?_); (case side1 => refine TabOk.below hT_ ?_; repeat (first | (with_reducible first | exact HB.out | apply below_alloc | apply pw_below_drewN | apply below_drew1 | refine below_set ?_ GE251.out) | exact HB.out)); (case side2 => repeat (first | exact (Kd.R_reads' HO_7.out).2.2 | (with_reducible refine Kd.C_alloc ?_ _) | (with_reducible refine Kd.C_drewN ?_ _) | (with_reducible refine Kd.C_drew ?_))); (case side3 => exact (Kd.R_reads' HO_7.out).2.1); rintro e w85 ⟨v294, rfl, ho0, hb⟩; have n0_ := Aside0.mk (Kd.R_elder' (rkw HO_7.out) (Kd.R_base ho0) hb); have n1_ := Aside0.mk (Kd.R_below (rkw HO_8.out) hb); have n2_ := Aside0.mk (Kd.R_lower (Kd.R_new' ho0 (Kd.R_lt (rkw HO_7.out))) (below_size (hbw HB.out))); have n3_ := Aside0.mk (blkb BK251.out hb); have n4_ := Aside0.mk (below_step (hbw HB.out) hb); clear HO_7; clear HO_8; clear BK251; clear HB; have HO_7 := n0_; have HO_8 := n1_; have HO295 := n2_; have BK251 := n3_; have HB := n4_; clear n0_ n1_ n2_ n3_ n4_; (try clear hb); (try clear hb2); (try clear hk); (try clear hi); (try clear ho0); obtain ⟨Ao86, co86, eo86⟩ := Kd.R_slice HO295.out; subst eo86; obtain ⟨Ao87, co87, eo87⟩ := Kd.R_slice HO_8.out; subst eo87)))
          (try simp only [Act.put, List.setIfInBounds_toArray, List.set_cons_zero, List.set_cons_succ])
          go_cut [] (fun wc => ∃ (kq : Nat), Aside0 (signalbenchlaw30_ModbusGaps.j5 kq x8_4 x9_4 t293 = some r) ∧ Aside0 (kq ≤ k4) ∧ Aside0 (Kd.R (Kd.int .i64) 3 wc w.heap.size (fun _ => True) (.slice Ao87 x8_4.length co87) x8_4) ∧ Aside0 (Kd.R k32 32 wc w.heap.size (fun _ => True) (.slice Ao86 t293.length co86) t293) ∧ Aside0 (wc.heap[gb251]? = some (.cells #[.int .i64 a0_0] 23 (0, 0))) ∧ Aside0 (Below w.heap.size w wc))
          case first =>
           have H := HC82.out
           clear HC82
           by_cases c88 : (t293.length : Int) = (x8_4.length : Int)
           ·rw [if_pos c88] at H
            have c88b0 : ((t293.length : Int) == (x8_4.length : Int)) = true := beq_iff_eq.mpr c88
            have c88b1 : ((t293.length : Int) != (x8_4.length : Int)) = false := bne_eq_false_iff_eq.mpr c88
            have c88b2 : (t293.length == x8_4.length) = true := by first | simpa using c88 | (simp at c88 ⊢; omega)
            clear c88
            (first | rw [c88b0] | (simp only [i64_w, i32_w]; rw [c88b0]) | skip)
            have H' := Aside0.mk H
            clear H
            go_wp2
            repeat (go_quiet (fail); try go_wp2)
            go_meet
            case rel => exact ⟨_, H', ⟨by have := HJ4.out; have := HJ8.out; have := HJ23.out; have := HK4.out; first | omega | exact Nat.le_refl _⟩, ⟨by (with_reducible repeat (first | apply Kd.R_alloc | apply Kd.R_drewN | apply Kd.R_drew)); exact HO_8.out⟩, ⟨by (with_reducible repeat (first | apply Kd.R_alloc | apply Kd.R_drewN | apply Kd.R_drew)); exact Kd.R_mono HO295.out (fun _ hk => trivial)⟩, ⟨by (with_reducible repeat (first | refine blk_drewN ?_ _ | refine blk_drew ?_ | refine blk_alloc ?_ _)); exact BK251.out⟩, ⟨by repeat (first | (with_reducible first | exact HB.out | apply below_alloc | apply pw_below_drewN | apply below_drew1 | refine below_set ?_ GE251.out) | exact HB.out)⟩⟩
           ·rw [if_neg c88] at H
            have c88b0 : ((t293.length : Int) == (x8_4.length : Int)) = false := beq_eq_false_iff_ne.mpr c88
            have c88b1 : ((t293.length : Int) != (x8_4.length : Int)) = true := bne_iff_ne.mpr c88
            have c88b2 : (t293.length == x8_4.length) = false := by first | simpa using c88 | (simp at c88 ⊢; omega)
            (first | rw [c88b0] | (simp only [i64_w, i32_w]; rw [c88b0]) | skip)
            obtain rfl := Option.some.inj H
            go_wp2
            repeat (go_quiet (fail); try go_wp2)
            go_ret
            exact ⟨by first | rfl | (simp [errW_none, errW_some] <;> rfl) | (simp [*, errW_none, errW_some] <;> rfl), by repeat (first | (with_reducible first | exact HB.out | apply below_alloc | apply pw_below_drewN | apply below_drew1 | refine below_set ?_ GE251.out) | exact HB.out)⟩
          case rest =>
           clear HC82
           try clear c1
           try clear c2
           try clear p2
           try clear q2
           try clear hx2
           try clear c3
           try clear c4
           try clear p4
           try clear q4
           try clear hx4
           try clear c5
           try clear p5
           try clear q5
           try clear hx5
           try clear c6
           try clear p6
           try clear q6
           try clear hx6
           try clear c7
           try clear p7
           try clear q7
           try clear hx7
           try clear c8
           try clear c10
           try clear c10b0
           try clear c10b1
           try clear c11
           try clear c11b0
           try clear c11b1
           try clear c12
           try clear c12b0
           try clear c12b1
           try clear c14
           try clear c14b0
           try clear c14b1
           try clear c15
           try clear c15b0
           try clear c25
           try clear p26
           try clear q26
           try clear hx26
           try clear c30
           try clear c30b0
           try clear c32
           try clear c32b0
           try clear c33
           try clear c33b0
           try clear c34
           try clear c34b0
           try clear c35
           try clear c36
           try clear c36b0
           try clear c37
           try clear c37b0
           try clear c38
           try clear c38b0
           try clear c38b1
           try clear c39
           try clear c40
           try clear c40b0
           try clear p41
           try clear q41
           try clear hx41
           try clear c42
           try clear c45
           try clear c45b0
           try clear c46
           try clear c47
           try clear c47b0
           try clear p48
           try clear q48
           try clear hx48
           try clear c49
           try clear c53
           try clear c53b0
           try clear p54
           try clear q54
           try clear hx54
           try clear c55
           try clear c58
           try clear c58b0
           try clear c58b1
           try clear c59
           try clear c60
           try clear c60b0
           try clear c61
           try clear c61b0
           try clear p62
           try clear q62
           try clear hx62
           try clear c63
           try clear p64
           try clear c66
           try clear c66b0
           try clear c67
           try clear c68
           try clear c68b0
           try clear c69
           try clear c69b0
           try clear p70
           try clear q70
           try clear hx70
           try clear c71
           try clear c75
           try clear c75b0
           try clear c76
           try clear c76b0
           try clear p77
           try clear q77
           try clear hx77
           try clear c78
           try clear c88
           try clear c88b0
           try clear c88b1
           try clear c88b2
           try clear hcz16_0
           try clear hcz18_0
           try clear hcz19_0
           try clear hcz21_0
           try clear hcz22_0
           try clear hcz50_0
           try clear hcz56_0
           try clear hcz72_0
           try clear hcz79_0
           try clear hcz83_0
           try clear hfz16_0
           try clear hfz18_0
           try clear hfz19_0
           try clear hfz21_0
           try clear hfz22_0
           try clear hfz50_0
           try clear hfz56_0
           try clear hfz72_0
           try clear hfz79_0
           try clear hfz83_0
           try clear hx260_0
           try clear hx261_0
           try clear hx262_0
           try clear p2
           try clear p26
           try clear p260
           try clear p261
           try clear p262
           try clear p41
           try clear p48
           try clear p54
           try clear p62
           try clear p70
           try clear p77
           try clear q2
           try clear q26
           try clear q260
           try clear q261
           try clear q262
           try clear q41
           try clear q48
           try clear q54
           try clear q62
           try clear q70
           try clear q77
           obtain ⟨kq, HA, HJ81, HO_8, HO_12, BK251, HB⟩ := hcut
           cases kq with
           | zero => exact absurd HA.out (by simp [signalbenchlaw30_ModbusGaps.j5])
           | succ kj81 =>
            have H := HA.out
            clear HA
            simp only [signalbenchlaw30_ModbusGaps.j5] at H
            have H' := Aside0.mk H
            clear H
            go_wp2
            repeat (go_quiet (fail); try go_wp2)
            go_loopg [13] kj81 (fun kq v13 w' => ∃ (x13_6 : Int), v13 = .int .i64 x13_6 ∧ Aside0 (signalbenchlaw30_ModbusGaps.l1 kq x8_4 x9_4 t293 x13_6 = some r) ∧ Aside0 (kq ≤ kj81) ∧ Aside0 (Kd.R (Kd.int .i64) 3 w' w.heap.size (fun _ => True) (.slice Ao87 x8_4.length co87) x8_4) ∧ Aside0 (Kd.R k32 32 w' w.heap.size (fun _ => True) (.slice Ao86 t293.length co86) t293) ∧ Aside0 (w'.heap[gb251]? = some (.cells #[.int .i64 a0_0] 23 (0, 0))) ∧ Aside0 (Below w.heap.size w w'))
            case atStart => exact ⟨(0), (by first | rfl | (simp; done) | (simp [*]; done)), H', ⟨Nat.le_refl _⟩, ⟨by (with_reducible repeat (first | apply Kd.R_alloc | apply Kd.R_drewN | apply Kd.R_drew)); exact HO_8.out⟩, ⟨by (with_reducible repeat (first | apply Kd.R_alloc | apply Kd.R_drewN | apply Kd.R_drew)); exact HO_12.out⟩, ⟨by (with_reducible repeat (first | refine blk_drewN ?_ _ | refine blk_drew ?_ | refine blk_alloc ?_ _)); exact BK251.out⟩, ⟨by repeat (first | (with_reducible first | exact HB.out | apply below_alloc | apply pw_below_drewN | apply below_drew1 | refine below_set ?_ GE251.out) | exact HB.out)⟩⟩
            case round =>
             clear H'
             try clear c1
             try clear c2
             try clear p2
             try clear q2
             try clear hx2
             try clear c3
             try clear c4
             try clear p4
             try clear q4
             try clear hx4
             try clear c5
             try clear p5
             try clear q5
             try clear hx5
             try clear c6
             try clear p6
             try clear q6
             try clear hx6
             try clear c7
             try clear p7
             try clear q7
             try clear hx7
             try clear c8
             try clear c10
             try clear c10b0
             try clear c10b1
             try clear c11
             try clear c11b0
             try clear c11b1
             try clear c12
             try clear c12b0
             try clear c12b1
             try clear c14
             try clear c14b0
             try clear c14b1
             try clear c15
             try clear c15b0
             try clear c25
             try clear p26
             try clear q26
             try clear hx26
             try clear c30
             try clear c30b0
             try clear c32
             try clear c32b0
             try clear c33
             try clear c33b0
             try clear c34
             try clear c34b0
             try clear c35
             try clear c36
             try clear c36b0
             try clear c37
             try clear c37b0
             try clear c38
             try clear c38b0
             try clear c38b1
             try clear c39
             try clear c40
             try clear c40b0
             try clear p41
             try clear q41
             try clear hx41
             try clear c42
             try clear c45
             try clear c45b0
             try clear c46
             try clear c47
             try clear c47b0
             try clear p48
             try clear q48
             try clear hx48
             try clear c49
             try clear c53
             try clear c53b0
             try clear p54
             try clear q54
             try clear hx54
             try clear c55
             try clear c58
             try clear c58b0
             try clear c58b1
             try clear c59
             try clear c60
             try clear c60b0
             try clear c61
             try clear c61b0
             try clear p62
             try clear q62
             try clear hx62
             try clear c63
             try clear p64
             try clear c66
             try clear c66b0
             try clear c67
             try clear c68
             try clear c68b0
             try clear c69
             try clear c69b0
             try clear p70
             try clear q70
             try clear hx70
             try clear c71
             try clear c75
             try clear c75b0
             try clear c76
             try clear c76b0
             try clear p77
             try clear q77
             try clear hx77
             try clear c78
             try clear c88
             try clear c88b0
             try clear c88b1
             try clear c88b2
             try clear hcz16_0
             try clear hcz18_0
             try clear hcz19_0
             try clear hcz21_0
             try clear hcz22_0
             try clear hcz50_0
             try clear hcz56_0
             try clear hcz72_0
             try clear hcz79_0
             try clear hcz83_0
             try clear hfz16_0
             try clear hfz18_0
             try clear hfz19_0
             try clear hfz21_0
             try clear hfz22_0
             try clear hfz50_0
             try clear hfz56_0
             try clear hfz72_0
             try clear hfz79_0
             try clear hfz83_0
             try clear hx260_0
             try clear hx261_0
             try clear hx262_0
             try clear p2
             try clear p26
             try clear p260
             try clear p261
             try clear p262
             try clear p4
             try clear p41
             try clear p48
             try clear p5
             try clear p54
             try clear p6
             try clear p62
             try clear p64
             try clear p7
             try clear p70
             try clear p77
             try clear q2
             try clear q26
             try clear q260
             try clear q261
             try clear q262
             try clear q4
             try clear q41
             try clear q48
             try clear q5
             try clear q54
             try clear q6
             try clear q62
             try clear q7
             try clear q70
             try clear q77
             obtain ⟨x13_6, rfl, HA, HK6, HO_8, HO_12, BK251, HB⟩ := hrel
             cases gk with
             | zero => exact absurd HA.out (by simp [signalbenchlaw30_ModbusGaps.l1])
             | succ k6 =>
              have H := HA.out
              clear HA
              simp only [signalbenchlaw30_ModbusGaps.l1] at H
              by_cases c89 : x13_6 < (t293.length : Int)
              ·rw [if_pos c89] at H
               have c89b0 : decide (x13_6 < (t293.length : Int)) = true := decide_eq_true c89
               clear c89
               by_cases c90 : 0 ≤ x13_6
               ·rw [if_pos c90] at H
                have c90b0 : decide (0 ≤ x13_6) = true := decide_eq_true c90
                clear c90
                by_cases c91 : x13_6 < (x8_4.length : Int)
                ·rw [if_pos c91] at H
                 have c91b0 : decide (x13_6 < (x8_4.length : Int)) = true := decide_eq_true c91
                 clear c91
                 by_cases c92 : ((rd_T32 t293 x13_6).f1) = (rd x8_4 x13_6)
                 ·rw [if_pos c92] at H
                  have c92b0 : (((rd_T32 t293 x13_6).f1) == (rd x8_4 x13_6)) = true := beq_iff_eq.mpr c92
                  have c92b1 : (((rd_T32 t293 x13_6).f1) != (rd x8_4 x13_6)) = false := bne_eq_false_iff_eq.mpr c92
                  clear c92
                  have H' := Aside0.mk H
                  clear H
                  have p296 : 0 ≤ (x13_6 : Int) := of_decide_eq_true (by first | (with_reducible assumption) | assumption)
                  have q296 : x13_6 < (t293.length : Int) := of_decide_eq_true (by first | (with_reducible assumption) | assumption)
                  obtain ⟨ad296, e296, hx296_0, hx296_1, hx296_2, hx296_3, hx296_4, hx296_5, hx296_6⟩ := at_T32 (Kd.R_reads' HO_12.out).2.2 x13_6 p296 q296
                  cases e296
                  replace p296 := eq_true p296
                  replace q296 := eq_true q296
                  have p297 : 0 ≤ (x13_6 : Int) := of_decide_eq_true (by first | (with_reducible assumption) | assumption)
                  have q297 : x13_6 < (x8_4.length : Int) := of_decide_eq_true (by first | (with_reducible assumption) | assumption)
                  obtain ⟨ad297, e297, hx297_0⟩ := Kd.at_int (Kd.R_reads' HO_8.out).2.2 x13_6 p297 q297
                  cases e297
                  replace p297 := eq_true p297
                  replace q297 := eq_true q297
                  go_wp2
                  repeat (go_quiet (fail); try go_wp2)
                  go_roundg k6
                  case measure => have := HJ4.out; have := HJ8.out; have := HJ23.out; have := HK4.out; have := HJ81.out; have := HK6.out; omega
                  case rel => exact ⟨(wrap64 (x13_6 + 1)), (by first | rfl | (simp; done) | (simp [*]; done)), H', ⟨by have := HJ4.out; have := HJ8.out; have := HJ23.out; have := HK4.out; have := HJ81.out; have := HK6.out; omega⟩, ⟨by (with_reducible repeat (first | apply Kd.R_alloc | apply Kd.R_drewN | apply Kd.R_drew)); exact HO_8.out⟩, ⟨by (with_reducible repeat (first | apply Kd.R_alloc | apply Kd.R_drewN | apply Kd.R_drew)); exact HO_12.out⟩, ⟨by (with_reducible repeat (first | refine blk_drewN ?_ _ | refine blk_drew ?_ | refine blk_alloc ?_ _)); exact BK251.out⟩, ⟨by repeat (first | (with_reducible first | exact HB.out | apply below_alloc | apply pw_below_drewN | apply below_drew1 | refine below_set ?_ GE251.out) | exact HB.out)⟩⟩
                 ·rw [if_neg c92] at H
                  have c92b0 : (((rd_T32 t293 x13_6).f1) == (rd x8_4 x13_6)) = false := beq_eq_false_iff_ne.mpr c92
                  have c92b1 : (((rd_T32 t293 x13_6).f1) != (rd x8_4 x13_6)) = true := bne_iff_ne.mpr c92
                  obtain rfl := Option.some.inj H
                  have p296 : 0 ≤ (x13_6 : Int) := of_decide_eq_true (by first | (with_reducible assumption) | assumption)
                  have q296 : x13_6 < (t293.length : Int) := of_decide_eq_true (by first | (with_reducible assumption) | assumption)
                  obtain ⟨ad296, e296, hx296_0, hx296_1, hx296_2, hx296_3, hx296_4, hx296_5, hx296_6⟩ := at_T32 (Kd.R_reads' HO_12.out).2.2 x13_6 p296 q296
                  cases e296
                  replace p296 := eq_true p296
                  replace q296 := eq_true q296
                  have p297 : 0 ≤ (x13_6 : Int) := of_decide_eq_true (by first | (with_reducible assumption) | assumption)
                  have q297 : x13_6 < (x8_4.length : Int) := of_decide_eq_true (by first | (with_reducible assumption) | assumption)
                  obtain ⟨ad297, e297, hx297_0⟩ := Kd.at_int (Kd.R_reads' HO_8.out).2.2 x13_6 p297 q297
                  cases e297
                  replace p297 := eq_true p297
                  replace q297 := eq_true q297
                  go_wp2
                  repeat (go_quiet (fail); try go_wp2)
                  go_ret
                  exact ⟨by first | rfl | (simp [errW_none, errW_some] <;> rfl) | (simp [*, errW_none, errW_some] <;> rfl), by repeat (first | (with_reducible first | exact HB.out | apply below_alloc | apply pw_below_drewN | apply below_drew1 | refine below_set ?_ GE251.out) | exact HB.out)⟩
                ·rw [if_neg c91] at H
                 exact absurd H (by simp)
               ·rw [if_neg c90] at H
                exact absurd H (by simp)
              ·rw [if_neg c89] at H
               have c89b0 : decide (x13_6 < (t293.length : Int)) = false := decide_eq_false c89
               clear c89
               obtain ⟨ji93, hji93⟩ : ∃ j_ : Int, (wrap64 ((t293.length : Int) - 1)) = j_ := ⟨_, rfl⟩
               replace H : (if 0 ≤ (ji93) then (if (ji93) < (t293.length : Int) then (some (((rd_T32 t293 (ji93)).f2) == x9_4)) else (none)) else (none)) = some r := by first | (rw [hji93] at H; exact H) | (simp only [hji93] at H ⊢; exact H)
               have hji93w : (IntKind.i64.wrap ((t293.length : Int) - 1)) = ji93 := (i64_w _).trans hji93
               by_cases c94 : 0 ≤ (ji93)
               ·rw [if_pos c94] at H
                have c94b0 : decide (0 ≤ (ji93)) = true := decide_eq_true c94
                clear c94
                by_cases c95 : (ji93) < (t293.length : Int)
                ·rw [if_pos c95] at H
                 have c95b0 : decide ((ji93) < (t293.length : Int)) = true := decide_eq_true c95
                 clear c95
                 obtain rfl := Option.some.inj H
                 have p298 : 0 ≤ ((ji93) : Int) := of_decide_eq_true (by first | (with_reducible assumption) | assumption)
                 have q298 : (ji93) < (t293.length : Int) := of_decide_eq_true (by first | (with_reducible assumption) | assumption)
                 obtain ⟨ad298, e298, hx298_0, hx298_1, hx298_2, hx298_3, hx298_4, hx298_5, hx298_6⟩ := at_T32 (Kd.R_reads' HO_12.out).2.2 (ji93) p298 q298
                 cases e298
                 replace p298 := eq_true p298
                 replace q298 := eq_true q298
                 go_wp2
                 repeat (go_quiet (fail); try go_wp2)
                 go_ret
                 exact ⟨by first | rfl | (simp [errW_none, errW_some] <;> rfl) | (simp only [← hji93]; first | rfl | (simp [errW_none, errW_some] <;> rfl)) | (simp [*, errW_none, errW_some] <;> rfl), by repeat (first | (with_reducible first | exact HB.out | apply below_alloc | apply pw_below_drewN | apply below_drew1 | refine below_set ?_ GE251.out) | exact HB.out)⟩
                ·rw [if_neg c95] at H
                 exact absurd H (by simp)
               ·rw [if_neg c94] at H
                exact absurd H (by simp)

/-- THE ONE PURE STATEMENT of signalbenchlaw30_ModbusGaps: yours. -/
def signalbenchlaw30_ModbusGaps.Pure : Prop := ∀ (a0_0 : Int) (a1 : ByteArray) (l2 : List Int), (Lit.int .i64 a0_0).wf = true → a1.size ≤ 140737488351232 → l2.length ≤ maxLen → l2.length * 8 ≤ 140737488351232 → (∀ x ∈ l2, (Lit.int .i64 x).wf = true) → ∃ k, signalbenchlaw30_ModbusGaps.f k a0_0 a1 l2 = some true
theorem signalbenchlaw30_ModbusGaps.walk (P : signalbenchlaw30_ModbusGaps.Pure) (a0_0 : Int) (a1 : ByteArray) (A2 : Option Addr) (c2 : Nat) (l2 : List Int) (w : World) (hT_ : TabOk w) (hr2 : Kd.C (Kd.int .i64) w A2 l2.length l2) (hc2 : l2.length ≤ c2) (w0_ : (Lit.int .i64 a0_0).wf = true) (w1_ : a1.size ≤ 140737488351232) (w2_ : l2.length ≤ maxLen) (w3_ : l2.length * 8 ≤ 140737488351232) (w4_ : (∀ x ∈ l2, (Lit.int .i64 x).wf = true)) :
  Calls Tryd.prog 7 #[.agg #[.int .i64 a0_0], .string a1, .slice A2 l2.length c2] w fun e w' => e = .returned (.bool true) ∧ Below w.heap.size w w' := by
 obtain ⟨k, h⟩ := P a0_0 a1 l2 w0_ w1_ w2_ w3_ w4_
 refine (signalbenchlaw30_ModbusGaps.calls k a0_0 a1 A2 c2 l2 true w hT_ hr2 hc2 h).mono ?_
 rintro e w' ⟨rfl, hd⟩
 exact ⟨rfl, hd⟩

end Go.Proofs.YtmalhgidhieamaaDoor.PModbusGaps
