-- Written by a program of this session (wip/tools/pr.py), which calls the kit's print with changes of its own.
import Derived.Test.YtmalhgidhieamaaDoorPModbusGapsx0
import Derived.Test.YtmalhgidhieamaaDoorPModbusGapsx3
import Derived.Test.YtmalhgidhieamaaDoorPModbusGapsx6
namespace Go.Proofs.YtmalhgidhieamaaDoor.PModbusGaps
open Go.RowKit Go.Proofs.YtmalhgidhieamaaDoorW.PrintWords Go.Proofs.YtmalhgidhieamaaDoorW.PrintLast Go.Proofs.YtmalhgidhieamaaDoorW.PrintMore
attribute [local go_sem] max2_int min2_int max_two min_two max_three min_three max_four min_four   -- for this text's walks alone
set_option linter.unusedVariables false
set_option linter.unusedSimpArgs false

/-! ### modbus_Step: function 11 -/
mutual
def modbus_Step.j0 : Nat → Bool → Int → Int → Int → Int → Int → Int → Int → Int → ByteArray → Int → Int → Int → Int → Int → ByteArray → Int → Option (Int × Int × Int × Int × Int × Int × Int × ByteArray × (List (S32)))
 | 0, _, _, _, _, _, _, _, _, _, _, _, _, _, _, _, _, _ => none
 | k + 1, x34, x141000, x142000, x142001, x142002, x142003, x142004, x142005, x142006, x142007, x143000, x143001, x143002, x143003, x143004, x143005, x143006 => if x34 = true then (some (x142000, x142001, x142002, x142003, x142004, x142005, x142006, x142007, ([] : List (S32)))) else (modbus_Step.j1 k x141000 x142000 x142001 x142002 x142003 x142004 x142005 x142006 x142007 x143000 x143001 x143002 x143003 x143004 x143005 x143006)
def modbus_Step.j1 : Nat → Int → Int → Int → Int → Int → Int → Int → Int → ByteArray → Int → Int → Int → Int → Int → ByteArray → Int → Option (Int × Int × Int × Int × Int × Int × Int × ByteArray × (List (S32)))
 | 0, _, _, _, _, _, _, _, _, _, _, _, _, _, _, _, _ => none
 | k + 1, x141000, x142000, x142001, x142002, x142003, x142004, x142005, x142006, x142007, x143000, x143001, x143002, x143003, x143004, x143005, x143006 => if x143006 = 0 then (if x142003 > 0 then (modbus_Step.j2 k ([] : List (S32)) (decide ((wrap64 (x143001 - x142005)) > x141000)) x142000 x142001 x142002 x142003 x142004 x142005 x142006 x142007 x143000 x143001 x143002 x143003 x143004 x143005 x143006) else (modbus_Step.j2 k ([] : List (S32)) false x142000 x142001 x142002 x142003 x142004 x142005 x142006 x142007 x143000 x143001 x143002 x143003 x143004 x143005 x143006)) else (if x142003 > 0 then (if ([] : List (S32)).length < 2199023255552 then (some (0, x143001, 0, 0, 0, 0, 0, (⟨#[]⟩ : ByteArray), (([] : List (S32)) ++ [(⟨5, x142002, mx x142002 x143001, 0, 0, (⟨#[]⟩ : ByteArray), 7⟩ : S32)]))) else (none)) else (some (0, x143001, 0, 0, 0, 0, 0, (⟨#[]⟩ : ByteArray), ([] : List (S32)))))
def modbus_Step.j2 : Nat → List (S32) → Bool → Int → Int → Int → Int → Int → Int → Int → ByteArray → Int → Int → Int → Int → Int → ByteArray → Int → Option (Int × Int × Int × Int × Int × Int × Int × ByteArray × (List (S32)))
 | 0, _, _, _, _, _, _, _, _, _, _, _, _, _, _, _, _, _ => none
 | k + 1, x8, x69, x142000, x142001, x142002, x142003, x142004, x142005, x142006, x142007, x143000, x143001, x143002, x143003, x143004, x143005, x143006 => if x69 = true then ((modbus_finish.f k x142000 x142001 x142002 x142003 x142004 x142005 x142006 x142007).bind fun t149 => (modbus_Step.j3 k t149 0 0 0 0 0 0 0 (⟨#[]⟩ : ByteArray) x143000 x143001 x143002 x143003 x143004 x143005 x143006)) else (modbus_Step.j3 k x8 x142000 x142001 x142002 x142003 x142004 x142005 x142006 x142007 x143000 x143001 x143002 x143003 x143004 x143005 x143006)
def modbus_Step.j3 : Nat → List (S32) → Int → Int → Int → Int → Int → Int → Int → ByteArray → Int → Int → Int → Int → Int → ByteArray → Int → Option (Int × Int × Int × Int × Int × Int × Int × ByteArray × (List (S32)))
 | 0, _, _, _, _, _, _, _, _, _, _, _, _, _, _, _, _ => none
 | k + 1, x8, x142000, x142001, x142002, x142003, x142004, x142005, x142006, x142007, x143000, x143001, x143002, x143003, x143004, x143005, x143006 => if x142003 = 0 then (if (x142007.size : Int) < 4100 then ((some (([(x143003) % 256] : List Int) : List Int)).bind fun y152 => (if x142007.size + (strOfNums y152).size ≤ 9223372036854775807 then (some (x142000, x143001, x143001, wrap64 (x142003 + 1), x142004, x143002, x142006, x142007 ++ (strOfNums y152), x8)) else (none))) else (some (x142000, x143001, x143001, wrap64 (x142003 + 1), x142004, x143002, x142006, x142007, x8))) else (if (x142007.size : Int) < 4100 then ((some (([(x143003) % 256] : List Int) : List Int)).bind fun y155 => (if x142007.size + (strOfNums y155).size ≤ 9223372036854775807 then (some (x142000, x143001, x142002, wrap64 (x142003 + 1), x142004, x143002, x142006, x142007 ++ (strOfNums y155), x8)) else (none))) else (some (x142000, x143001, x142002, wrap64 (x142003 + 1), x142004, x143002, x142006, x142007, x8)))
end
def modbus_Step.f (k : Nat) (a0_0 : Int) (a1_0 : Int) (a1_1 : Int) (a1_2 : Int) (a1_3 : Int) (a1_4 : Int) (a1_5 : Int) (a1_6 : Int) (a1_7 : ByteArray) (a2_0 : Int) (a2_1 : Int) (a2_2 : Int) (a2_3 : Int) (a2_4 : Int) (a2_5 : ByteArray) (a2_6 : Int) : Option (Int × Int × Int × Int × Int × Int × Int × ByteArray × (List (S32))) := (modbus_Check.f a0_0).bind fun t144 => (if t144 = 0 then ((event_Valid.f k a2_0 a2_1 a2_2 a2_3 a2_4 a2_5 a2_6).bind fun t145 => (if t145 = true then (if a2_0 = 3 then (if a2_1 < a1_1 then (modbus_Step.j0 k true a0_0 a1_0 a1_1 a1_2 a1_3 a1_4 a1_5 a1_6 a1_7 a2_0 a2_1 a2_2 a2_3 a2_4 a2_5 a2_6) else (modbus_Step.j0 k ((Go.bits .andNot .i64 a2_3 255) != 0) a0_0 a1_0 a1_1 a1_2 a1_3 a1_4 a1_5 a1_6 a1_7 a2_0 a2_1 a2_2 a2_3 a2_4 a2_5 a2_6)) else (modbus_Step.j0 k true a0_0 a1_0 a1_1 a1_2 a1_3 a1_4 a1_5 a1_6 a1_7 a2_0 a2_1 a2_2 a2_3 a2_4 a2_5 a2_6)) else (modbus_Step.j0 k true a0_0 a1_0 a1_1 a1_2 a1_3 a1_4 a1_5 a1_6 a1_7 a2_0 a2_1 a2_2 a2_3 a2_4 a2_5 a2_6))) else (modbus_Step.j0 k true a0_0 a1_0 a1_1 a1_2 a1_3 a1_4 a1_5 a1_6 a1_7 a2_0 a2_1 a2_2 a2_3 a2_4 a2_5 a2_6))
theorem modbus_Step.mono_l : ∀ k, (∀ y0 y1 y2 y3 y4 y5 y6 y7 y8 y9 y10 y11 y12 y13 y14 y15 y16, LeO (modbus_Step.j0 k y0 y1 y2 y3 y4 y5 y6 y7 y8 y9 y10 y11 y12 y13 y14 y15 y16) (modbus_Step.j0 (k + 1) y0 y1 y2 y3 y4 y5 y6 y7 y8 y9 y10 y11 y12 y13 y14 y15 y16)) ∧ (∀ y0 y1 y2 y3 y4 y5 y6 y7 y8 y9 y10 y11 y12 y13 y14 y15, LeO (modbus_Step.j1 k y0 y1 y2 y3 y4 y5 y6 y7 y8 y9 y10 y11 y12 y13 y14 y15) (modbus_Step.j1 (k + 1) y0 y1 y2 y3 y4 y5 y6 y7 y8 y9 y10 y11 y12 y13 y14 y15)) ∧ (∀ y0 y1 y2 y3 y4 y5 y6 y7 y8 y9 y10 y11 y12 y13 y14 y15 y16, LeO (modbus_Step.j2 k y0 y1 y2 y3 y4 y5 y6 y7 y8 y9 y10 y11 y12 y13 y14 y15 y16) (modbus_Step.j2 (k + 1) y0 y1 y2 y3 y4 y5 y6 y7 y8 y9 y10 y11 y12 y13 y14 y15 y16)) ∧ (∀ y0 y1 y2 y3 y4 y5 y6 y7 y8 y9 y10 y11 y12 y13 y14 y15, LeO (modbus_Step.j3 k y0 y1 y2 y3 y4 y5 y6 y7 y8 y9 y10 y11 y12 y13 y14 y15) (modbus_Step.j3 (k + 1) y0 y1 y2 y3 y4 y5 y6 y7 y8 y9 y10 y11 y12 y13 y14 y15))
 | 0 => ⟨fun _ _ _ _ _ _ _ _ _ _ _ _ _ _ _ _ _ r h => by simp [modbus_Step.j0] at h, fun _ _ _ _ _ _ _ _ _ _ _ _ _ _ _ _ r h => by simp [modbus_Step.j1] at h, fun _ _ _ _ _ _ _ _ _ _ _ _ _ _ _ _ _ r h => by simp [modbus_Step.j2] at h, fun _ _ _ _ _ _ _ _ _ _ _ _ _ _ _ _ r h => by simp [modbus_Step.j3] at h⟩
 | k + 1 => by
  obtain ⟨ih0, ih1, ih2, ih3⟩ := modbus_Step.mono_l k
  refine ⟨?_, ?_, ?_, ?_⟩
  ·intro y0 y1 y2 y3 y4 y5 y6 y7 y8 y9 y10 y11 y12 y13 y14 y15 y16
   unfold modbus_Step.j0
   repeat' first
   | (with_reducible exact ih0 _ _ _ _ _ _ _ _ _ _ _ _ _ _ _ _ _)
   | (with_reducible exact ih1 _ _ _ _ _ _ _ _ _ _ _ _ _ _ _ _)
   | (with_reducible exact ih2 _ _ _ _ _ _ _ _ _ _ _ _ _ _ _ _ _)
   | (with_reducible exact ih3 _ _ _ _ _ _ _ _ _ _ _ _ _ _ _ _)
   | (with_reducible exact event_Valid.mono _ _ _ _ _ _ _ _)
   | (with_reducible exact modbus_finish.mono _ _ _ _ _ _ _ _ _)
   | (with_reducible exact LeO.refl _)
   | (with_reducible exact LeO.none _)
   | (with_reducible refine LeO.ite ?_ ?_)
   | (with_reducible refine LeO.bind ?_ (fun _ => ?_))
   | exact ih0 _ _ _ _ _ _ _ _ _ _ _ _ _ _ _ _ _
   | exact ih1 _ _ _ _ _ _ _ _ _ _ _ _ _ _ _ _
   | exact ih2 _ _ _ _ _ _ _ _ _ _ _ _ _ _ _ _ _
   | exact ih3 _ _ _ _ _ _ _ _ _ _ _ _ _ _ _ _
   | exact event_Valid.mono _ _ _ _ _ _ _ _
   | exact modbus_finish.mono _ _ _ _ _ _ _ _ _
   | exact LeO.none _
   | refine LeO.ite ?_ ?_
   | refine LeO.bind ?_ (fun _ => ?_)
  ·intro y0 y1 y2 y3 y4 y5 y6 y7 y8 y9 y10 y11 y12 y13 y14 y15
   unfold modbus_Step.j1
   repeat' first
   | (with_reducible exact ih0 _ _ _ _ _ _ _ _ _ _ _ _ _ _ _ _ _)
   | (with_reducible exact ih1 _ _ _ _ _ _ _ _ _ _ _ _ _ _ _ _)
   | (with_reducible exact ih2 _ _ _ _ _ _ _ _ _ _ _ _ _ _ _ _ _)
   | (with_reducible exact ih3 _ _ _ _ _ _ _ _ _ _ _ _ _ _ _ _)
   | (with_reducible exact event_Valid.mono _ _ _ _ _ _ _ _)
   | (with_reducible exact modbus_finish.mono _ _ _ _ _ _ _ _ _)
   | (with_reducible exact LeO.refl _)
   | (with_reducible exact LeO.none _)
   | (with_reducible refine LeO.ite ?_ ?_)
   | (with_reducible refine LeO.bind ?_ (fun _ => ?_))
   | exact ih0 _ _ _ _ _ _ _ _ _ _ _ _ _ _ _ _ _
   | exact ih1 _ _ _ _ _ _ _ _ _ _ _ _ _ _ _ _
   | exact ih2 _ _ _ _ _ _ _ _ _ _ _ _ _ _ _ _ _
   | exact ih3 _ _ _ _ _ _ _ _ _ _ _ _ _ _ _ _
   | exact event_Valid.mono _ _ _ _ _ _ _ _
   | exact modbus_finish.mono _ _ _ _ _ _ _ _ _
   | exact LeO.none _
   | refine LeO.ite ?_ ?_
   | refine LeO.bind ?_ (fun _ => ?_)
  ·intro y0 y1 y2 y3 y4 y5 y6 y7 y8 y9 y10 y11 y12 y13 y14 y15 y16
   unfold modbus_Step.j2
   repeat' first
   | (with_reducible exact ih0 _ _ _ _ _ _ _ _ _ _ _ _ _ _ _ _ _)
   | (with_reducible exact ih1 _ _ _ _ _ _ _ _ _ _ _ _ _ _ _ _)
   | (with_reducible exact ih2 _ _ _ _ _ _ _ _ _ _ _ _ _ _ _ _ _)
   | (with_reducible exact ih3 _ _ _ _ _ _ _ _ _ _ _ _ _ _ _ _)
   | (with_reducible exact event_Valid.mono _ _ _ _ _ _ _ _)
   | (with_reducible exact modbus_finish.mono _ _ _ _ _ _ _ _ _)
   | (with_reducible exact LeO.refl _)
   | (with_reducible exact LeO.none _)
   | (with_reducible refine LeO.ite ?_ ?_)
   | (with_reducible refine LeO.bind ?_ (fun _ => ?_))
   | exact ih0 _ _ _ _ _ _ _ _ _ _ _ _ _ _ _ _ _
   | exact ih1 _ _ _ _ _ _ _ _ _ _ _ _ _ _ _ _
   | exact ih2 _ _ _ _ _ _ _ _ _ _ _ _ _ _ _ _ _
   | exact ih3 _ _ _ _ _ _ _ _ _ _ _ _ _ _ _ _
   | exact event_Valid.mono _ _ _ _ _ _ _ _
   | exact modbus_finish.mono _ _ _ _ _ _ _ _ _
   | exact LeO.none _
   | refine LeO.ite ?_ ?_
   | refine LeO.bind ?_ (fun _ => ?_)
  ·intro y0 y1 y2 y3 y4 y5 y6 y7 y8 y9 y10 y11 y12 y13 y14 y15
   unfold modbus_Step.j3
   repeat' first
   | (with_reducible exact ih0 _ _ _ _ _ _ _ _ _ _ _ _ _ _ _ _ _)
   | (with_reducible exact ih1 _ _ _ _ _ _ _ _ _ _ _ _ _ _ _ _)
   | (with_reducible exact ih2 _ _ _ _ _ _ _ _ _ _ _ _ _ _ _ _ _)
   | (with_reducible exact ih3 _ _ _ _ _ _ _ _ _ _ _ _ _ _ _ _)
   | (with_reducible exact event_Valid.mono _ _ _ _ _ _ _ _)
   | (with_reducible exact modbus_finish.mono _ _ _ _ _ _ _ _ _)
   | (with_reducible exact LeO.refl _)
   | (with_reducible exact LeO.none _)
   | (with_reducible refine LeO.ite ?_ ?_)
   | (with_reducible refine LeO.bind ?_ (fun _ => ?_))
   | exact ih0 _ _ _ _ _ _ _ _ _ _ _ _ _ _ _ _ _
   | exact ih1 _ _ _ _ _ _ _ _ _ _ _ _ _ _ _ _
   | exact ih2 _ _ _ _ _ _ _ _ _ _ _ _ _ _ _ _ _
   | exact ih3 _ _ _ _ _ _ _ _ _ _ _ _ _ _ _ _
   | exact event_Valid.mono _ _ _ _ _ _ _ _
   | exact modbus_finish.mono _ _ _ _ _ _ _ _ _
   | exact LeO.none _
   | refine LeO.ite ?_ ?_
   | refine LeO.bind ?_ (fun _ => ?_)
theorem modbus_Step.mono : ∀ a0 a1 a2 a3 a4 a5 a6 a7 a8 a9 a10 a11 a12 a13 a14 a15 k, LeO (modbus_Step.f k a0 a1 a2 a3 a4 a5 a6 a7 a8 a9 a10 a11 a12 a13 a14 a15) (modbus_Step.f (k + 1) a0 a1 a2 a3 a4 a5 a6 a7 a8 a9 a10 a11 a12 a13 a14 a15) := by
 intro a0 a1 a2 a3 a4 a5 a6 a7 a8 a9 a10 a11 a12 a13 a14 a15 k
 obtain ⟨ih0, ih1, ih2, ih3⟩ := modbus_Step.mono_l k
 unfold modbus_Step.f
 repeat' first
   | (with_reducible exact ih0 _ _ _ _ _ _ _ _ _ _ _ _ _ _ _ _ _)
   | (with_reducible exact ih1 _ _ _ _ _ _ _ _ _ _ _ _ _ _ _ _)
   | (with_reducible exact ih2 _ _ _ _ _ _ _ _ _ _ _ _ _ _ _ _ _)
   | (with_reducible exact ih3 _ _ _ _ _ _ _ _ _ _ _ _ _ _ _ _)
   | (with_reducible exact event_Valid.mono _ _ _ _ _ _ _ _)
   | (with_reducible exact modbus_finish.mono _ _ _ _ _ _ _ _ _)
   | (with_reducible exact LeO.refl _)
   | (with_reducible exact LeO.none _)
   | (with_reducible refine LeO.ite ?_ ?_)
   | (with_reducible refine LeO.bind ?_ (fun _ => ?_))
   | exact ih0 _ _ _ _ _ _ _ _ _ _ _ _ _ _ _ _ _
   | exact ih1 _ _ _ _ _ _ _ _ _ _ _ _ _ _ _ _
   | exact ih2 _ _ _ _ _ _ _ _ _ _ _ _ _ _ _ _ _
   | exact ih3 _ _ _ _ _ _ _ _ _ _ _ _ _ _ _ _
   | exact event_Valid.mono _ _ _ _ _ _ _ _
   | exact modbus_finish.mono _ _ _ _ _ _ _ _ _
   | exact LeO.none _
   | refine LeO.ite ?_ ?_
   | refine LeO.bind ?_ (fun _ => ?_)
def modbus_Step.T16 : Bool × List (List Nat × List Nat) := (true, [([], []), ([0], [0]), ([], []), ([2], [2]), ([0, 1], []), ([4, 1, 0, 1], [1, 4]), ([0, 1, 2, 3, 4, 5], []), ([6, 3, 5, 0, 1, 2, 3, 4, 5], [3, 6])])
def modbus_Step.B16 : List Nat := [0, 1, 0, 4, 3, 19, 63, 127]
theorem modbus_Step.tab16 : rtab .any (opsOf Tryd.f11 16) = modbus_Step.T16 := by kernel_rfl
theorem modbus_Step.bits16 : waitsOk modbus_Step.T16.2 modbus_Step.B16 = true := by kernel_rfl
set_option maxHeartbeats 8000000 in
set_option maxRecDepth 100000 in
theorem modbus_Step.calls (k : Nat) (a0_0 : Int) (a1_0 : Int) (a1_1 : Int) (a1_2 : Int) (a1_3 : Int) (a1_4 : Int) (a1_5 : Int) (a1_6 : Int) (a1_7 : ByteArray) (a2_0 : Int) (a2_1 : Int) (a2_2 : Int) (a2_3 : Int) (a2_4 : Int) (a2_5 : ByteArray) (a2_6 : Int) (r1 : Int) (r2 : Int) (r3 : Int) (r4 : Int) (r5 : Int) (r6 : Int) (r7 : Int) (r8 : ByteArray) (r9 : List (S32)) (w : World) (hT_ : TabOk w) (h : modbus_Step.f k a0_0 a1_0 a1_1 a1_2 a1_3 a1_4 a1_5 a1_6 a1_7 a2_0 a2_1 a2_2 a2_3 a2_4 a2_5 a2_6 = some (r1, r2, r3, r4, r5, r6, r7, r8, r9)) :
  Calls Tryd.prog 11 #[.agg #[.int .i64 a0_0], .agg #[.int .i64 a1_0, .int .i64 a1_1, .int .i64 a1_2, .int .i64 a1_3, .int .i64 a1_4, .int .i64 a1_5, .int .i64 a1_6, .string a1_7], .agg #[.int .i64 a2_0, .int .i64 a2_1, .int .i64 a2_2, .int .i64 a2_3, .int .i64 a2_4, .string a2_5, .int .i64 a2_6]] w fun e w' => ∃ v8_ : Value, e = .returned (.tuple #[.agg #[.int .i64 r1, .int .i64 r2, .int .i64 r3, .int .i64 r4, .int .i64 r5, .int .i64 r6, .int .i64 r7, .string r8], v8_]) ∧ Kd.R k32 32 w' w.heap.size (fun _ => True) v8_ r9 ∧ Below w.heap.size w w' := by
 have hu23 := Tryd.underlying23
 have hu27 := Tryd.underlying27
 have hu32 := Tryd.underlying32
 have HB := Aside0.mk (Below.refl w.heap.size w)
 have H : ((modbus_Check.f a0_0).bind fun t144 => (if t144 = 0 then ((event_Valid.f k a2_0 a2_1 a2_2 a2_3 a2_4 a2_5 a2_6).bind fun t145 => (if t145 = true then (if a2_0 = 3 then (if a2_1 < a1_1 then (modbus_Step.j0 k true a0_0 a1_0 a1_1 a1_2 a1_3 a1_4 a1_5 a1_6 a1_7 a2_0 a2_1 a2_2 a2_3 a2_4 a2_5 a2_6) else (modbus_Step.j0 k ((Go.bits .andNot .i64 a2_3 255) != 0) a0_0 a1_0 a1_1 a1_2 a1_3 a1_4 a1_5 a1_6 a1_7 a2_0 a2_1 a2_2 a2_3 a2_4 a2_5 a2_6)) else (modbus_Step.j0 k true a0_0 a1_0 a1_1 a1_2 a1_3 a1_4 a1_5 a1_6 a1_7 a2_0 a2_1 a2_2 a2_3 a2_4 a2_5 a2_6)) else (modbus_Step.j0 k true a0_0 a1_0 a1_1 a1_2 a1_3 a1_4 a1_5 a1_6 a1_7 a2_0 a2_1 a2_2 a2_3 a2_4 a2_5 a2_6))) else (modbus_Step.j0 k true a0_0 a1_0 a1_1 a1_2 a1_3 a1_4 a1_5 a1_6 a1_7 a2_0 a2_1 a2_2 a2_3 a2_4 a2_5 a2_6))) = some (r1, r2, r3, r4, r5, r6, r7, r8, r9) := h
 clear h
 have HC4 := Aside0.mk H
 clear H
 go_enter Tryd.func11, Tryd.ntmps11
 go_upto_region 1 with (first | ((with_reducible refine gate_dst (N := 3) rfl ?_); refine box_event ?hg (N := 3) ?hd (cs := #[.int .i64 a0_0]) (t := 23) ?hr ?_; (case hd => rfl); (case hg => rfl); (case hr => first | (go_simp; done) | (go_simp; rfl)); intro gb140 hg w5 hbox hb; have n0_ := Aside0.mk (below_step (hbw HB.out) hb); have n1_ := Aside0.mk (hbox); have n2_ := Aside0.mk ((by rw [hg]; exact (below_size (hbw HB.out)) : w.heap.size ≤ gb140)); have n3_ := Aside0.mk ((by rw [hg]; exact (below_size (hbw HB.out)) : w.heap.size ≤ gb140)); clear HB; have HB := n0_; have BK140 := n1_; have GW140 := n2_; have GE140 := n3_; clear n0_ n1_ n2_ n3_; clear hb hbox hg) | ((with_reducible refine gate_dst (N := 4) rfl ?_); refine box_event ?hg (N := 4) ?hd (cs := #[.int .i64 a1_0, .int .i64 a1_1, .int .i64 a1_2, .int .i64 a1_3, .int .i64 a1_4, .int .i64 a1_5, .int .i64 a1_6, .string a1_7]) (t := 27) ?hr ?_; (case hd => rfl); (case hg => rfl); (case hr => first | (go_simp; done) | (go_simp; rfl)); intro gb141 hg w6 hbox hb; have n0_ := Aside0.mk (blkb BK140.out hb); have n1_ := Aside0.mk (below_step (hbw HB.out) hb); have n2_ := Aside0.mk (hbox); have n3_ := Aside0.mk ((by rw [hg]; exact (below_size (hbw HB.out)) : w.heap.size ≤ gb141)); have n4_ := Aside0.mk ((by rw [hg]; exact (below_size (hbw HB.out)) : w.heap.size ≤ gb141)); have n5_ := Aside0.mk ((by rw [hg]; exact Nat.ne_of_lt (blkl BK140.out) : gb140 ≠ gb141)); have n6_ := Aside0.mk ((by rw [hg]; exact Nat.ne_of_gt (blkl BK140.out) : gb141 ≠ gb140)); clear BK140; clear HB; have BK140 := n0_; have HB := n1_; have BK141 := n2_; have GW141 := n3_; have GE141 := n4_; have NB140_141 := n5_; have NB141_140 := n6_; clear n0_ n1_ n2_ n3_ n4_ n5_ n6_; clear hb hbox hg) | ((with_reducible refine gate_dst (N := 5) rfl ?_); refine box_event ?hg (N := 5) ?hd (cs := #[.int .i64 a2_0, .int .i64 a2_1, .int .i64 a2_2, .int .i64 a2_3, .int .i64 a2_4, .string a2_5, .int .i64 a2_6]) (t := 32) ?hr ?_; (case hd => rfl); (case hg => rfl); (case hr => first | (go_simp; done) | (go_simp; rfl)); intro gb142 hg w7 hbox hb; have n0_ := Aside0.mk (blkb BK140.out hb); have n1_ := Aside0.mk (blkb BK141.out hb); have n2_ := Aside0.mk (below_step (hbw HB.out) hb); have n3_ := Aside0.mk (hbox); have n4_ := Aside0.mk ((by rw [hg]; exact (below_size (hbw HB.out)) : w.heap.size ≤ gb142)); have n5_ := Aside0.mk ((by rw [hg]; exact (below_size (hbw HB.out)) : w.heap.size ≤ gb142)); have n6_ := Aside0.mk ((by rw [hg]; exact Nat.ne_of_lt (blkl BK140.out) : gb140 ≠ gb142)); have n7_ := Aside0.mk ((by rw [hg]; exact Nat.ne_of_gt (blkl BK140.out) : gb142 ≠ gb140)); have n8_ := Aside0.mk ((by rw [hg]; exact Nat.ne_of_lt (blkl BK141.out) : gb141 ≠ gb142)); have n9_ := Aside0.mk ((by rw [hg]; exact Nat.ne_of_gt (blkl BK141.out) : gb142 ≠ gb141)); clear BK140; clear BK141; clear HB; have BK140 := n0_; have BK141 := n1_; have HB := n2_; have BK142 := n3_; have GW142 := n4_; have GE142 := n5_; have NB140_142 := n6_; have NB142_140 := n7_; have NB141_142 := n8_; have NB142_141 := n9_; clear n0_ n1_ n2_ n3_ n4_ n5_ n6_ n7_ n8_ n9_; clear hb hbox hg) | ((with_reducible refine gate_dst (N := 6) rfl ?_); refine box_event ?hg (N := 6) ?hd (cs := #[.int .i64 0, .int .i64 0, .int .i64 0, .int .i64 0, .int .i64 0, .int .i64 0, .int .i64 0, .string (⟨#[]⟩ : ByteArray)]) (t := 27) ?hr ?_; (case hd => rfl); (case hg => rfl); (case hr => first | (go_simp; done) | (go_simp; rfl)); intro gb143 hg w8 hbox hb; have n0_ := Aside0.mk (blkb BK140.out hb); have n1_ := Aside0.mk (blkb BK141.out hb); have n2_ := Aside0.mk (blkb BK142.out hb); have n3_ := Aside0.mk (below_step (hbw HB.out) hb); have n4_ := Aside0.mk (hbox); have n5_ := Aside0.mk ((by rw [hg]; exact (below_size (hbw HB.out)) : w.heap.size ≤ gb143)); have n6_ := Aside0.mk ((by rw [hg]; exact (below_size (hbw HB.out)) : w.heap.size ≤ gb143)); have n7_ := Aside0.mk ((by rw [hg]; exact Nat.ne_of_lt (blkl BK140.out) : gb140 ≠ gb143)); have n8_ := Aside0.mk ((by rw [hg]; exact Nat.ne_of_gt (blkl BK140.out) : gb143 ≠ gb140)); have n9_ := Aside0.mk ((by rw [hg]; exact Nat.ne_of_lt (blkl BK141.out) : gb141 ≠ gb143)); have n10_ := Aside0.mk ((by rw [hg]; exact Nat.ne_of_gt (blkl BK141.out) : gb143 ≠ gb141)); have n11_ := Aside0.mk ((by rw [hg]; exact Nat.ne_of_lt (blkl BK142.out) : gb142 ≠ gb143)); have n12_ := Aside0.mk ((by rw [hg]; exact Nat.ne_of_gt (blkl BK142.out) : gb143 ≠ gb142)); clear BK140; clear BK141; clear BK142; clear HB; have BK140 := n0_; have BK141 := n1_; have BK142 := n2_; have HB := n3_; have BK143 := n4_; have GW143 := n5_; have GE143 := n6_; have NB140_143 := n7_; have NB143_140 := n8_; have NB141_143 := n9_; have NB143_141 := n10_; have NB142_143 := n11_; have NB143_142 := n12_; clear n0_ n1_ n2_ n3_ n4_ n5_ n6_ n7_ n8_ n9_ n10_ n11_ n12_; clear hb hbox hg))
 (try simp only [Act.put, List.setIfInBounds_toArray, List.set_cons_zero, List.set_cons_succ])
 go_cut [34] (fun v34 wc => ∃ (kq : Nat) (x34_3 : Bool), v34 = .bool x34_3 ∧ Aside0 (modbus_Step.j0 kq x34_3 a0_0 a1_0 a1_1 a1_2 a1_3 a1_4 a1_5 a1_6 a1_7 a2_0 a2_1 a2_2 a2_3 a2_4 a2_5 a2_6 = some (r1, r2, r3, r4, r5, r6, r7, r8, r9)) ∧ Aside0 (kq ≤ k) ∧ Aside0 (wc.heap[gb140]? = some (.cells #[.int .i64 a0_0] 23 (0, 0))) ∧ Aside0 (wc.heap[gb141]? = some (.cells #[.int .i64 a1_0, .int .i64 a1_1, .int .i64 a1_2, .int .i64 a1_3, .int .i64 a1_4, .int .i64 a1_5, .int .i64 a1_6, .string a1_7] 27 (0, 0))) ∧ Aside0 (wc.heap[gb142]? = some (.cells #[.int .i64 a2_0, .int .i64 a2_1, .int .i64 a2_2, .int .i64 a2_3, .int .i64 a2_4, .string a2_5, .int .i64 a2_6] 32 (0, 0))) ∧ Aside0 (wc.heap[gb143]? = some (.cells #[.int .i64 0, .int .i64 0, .int .i64 0, .int .i64 0, .int .i64 0, .int .i64 0, .int .i64 0, .string (⟨#[]⟩ : ByteArray)] 27 (0, 0))) ∧ Aside0 (Below w.heap.size w wc))
 case first =>
  have H := HC4.out
  clear HC4
  replace H := Option.bind_eq_some_iff.mp H
  obtain ⟨t144, A90, H⟩ := H
  replace H : (if t144 = 0 then ((event_Valid.f k a2_0 a2_1 a2_2 a2_3 a2_4 a2_5 a2_6).bind fun t145 => (if t145 = true then (if a2_0 = 3 then (if a2_1 < a1_1 then (modbus_Step.j0 k true a0_0 a1_0 a1_1 a1_2 a1_3 a1_4 a1_5 a1_6 a1_7 a2_0 a2_1 a2_2 a2_3 a2_4 a2_5 a2_6) else (modbus_Step.j0 k ((Go.bits .andNot .i64 a2_3 255) != 0) a0_0 a1_0 a1_1 a1_2 a1_3 a1_4 a1_5 a1_6 a1_7 a2_0 a2_1 a2_2 a2_3 a2_4 a2_5 a2_6)) else (modbus_Step.j0 k true a0_0 a1_0 a1_1 a1_2 a1_3 a1_4 a1_5 a1_6 a1_7 a2_0 a2_1 a2_2 a2_3 a2_4 a2_5 a2_6)) else (modbus_Step.j0 k true a0_0 a1_0 a1_1 a1_2 a1_3 a1_4 a1_5 a1_6 a1_7 a2_0 a2_1 a2_2 a2_3 a2_4 a2_5 a2_6))) else (modbus_Step.j0 k true a0_0 a1_0 a1_1 a1_2 a1_3 a1_4 a1_5 a1_6 a1_7 a2_0 a2_1 a2_2 a2_3 a2_4 a2_5 a2_6)) = some (r1, r2, r3, r4, r5, r6, r7, r8, r9) := H
  have A9 := Aside0.mk A90
  clear A90
  by_cases c10 : t144 = 0
  ·rw [if_pos c10] at H
   have c10b0 : (t144 == 0) = true := beq_iff_eq.mpr c10
   have c10b1 : (t144 != 0) = false := bne_eq_false_iff_eq.mpr c10
   clear c10
   (first | rw [c10b0] | (simp only [i64_w, i32_w]; rw [c10b0]) | skip)
   replace H := Option.bind_eq_some_iff.mp H
   obtain ⟨t145, A110, H⟩ := H
   replace H : (if t145 = true then (if a2_0 = 3 then (if a2_1 < a1_1 then (modbus_Step.j0 k true a0_0 a1_0 a1_1 a1_2 a1_3 a1_4 a1_5 a1_6 a1_7 a2_0 a2_1 a2_2 a2_3 a2_4 a2_5 a2_6) else (modbus_Step.j0 k ((Go.bits .andNot .i64 a2_3 255) != 0) a0_0 a1_0 a1_1 a1_2 a1_3 a1_4 a1_5 a1_6 a1_7 a2_0 a2_1 a2_2 a2_3 a2_4 a2_5 a2_6)) else (modbus_Step.j0 k true a0_0 a1_0 a1_1 a1_2 a1_3 a1_4 a1_5 a1_6 a1_7 a2_0 a2_1 a2_2 a2_3 a2_4 a2_5 a2_6)) else (modbus_Step.j0 k true a0_0 a1_0 a1_1 a1_2 a1_3 a1_4 a1_5 a1_6 a1_7 a2_0 a2_1 a2_2 a2_3 a2_4 a2_5 a2_6)) = some (r1, r2, r3, r4, r5, r6, r7, r8, r9) := H
   have A11 := Aside0.mk A110
   clear A110
   by_cases c12 : t145 = true
   ·subst c12
    have H1 : (if a2_0 = 3 then (if a2_1 < a1_1 then (modbus_Step.j0 k true a0_0 a1_0 a1_1 a1_2 a1_3 a1_4 a1_5 a1_6 a1_7 a2_0 a2_1 a2_2 a2_3 a2_4 a2_5 a2_6) else (modbus_Step.j0 k ((Go.bits .andNot .i64 a2_3 255) != 0) a0_0 a1_0 a1_1 a1_2 a1_3 a1_4 a1_5 a1_6 a1_7 a2_0 a2_1 a2_2 a2_3 a2_4 a2_5 a2_6)) else (modbus_Step.j0 k true a0_0 a1_0 a1_1 a1_2 a1_3 a1_4 a1_5 a1_6 a1_7 a2_0 a2_1 a2_2 a2_3 a2_4 a2_5 a2_6)) = some (r1, r2, r3, r4, r5, r6, r7, r8, r9) := by rw [if_pos rfl] at H; exact H
    clear H
    have H := H1
    clear H1
    by_cases c13 : a2_0 = 3
    ·rw [if_pos c13] at H
     have c13b0 : (a2_0 == 3) = true := beq_iff_eq.mpr c13
     have c13b1 : (a2_0 != 3) = false := bne_eq_false_iff_eq.mpr c13
     clear c13
     by_cases c14 : a2_1 < a1_1
     ·rw [if_pos c14] at H
      have c14b0 : decide (a2_1 < a1_1) = true := decide_eq_true c14
      clear c14
      have H' := Aside0.mk H
      clear H
      have hnb15 := NB140_141.out
      have hnc15 := NB141_140.out
      have hnb16 := NB140_142.out
      have hnc16 := NB142_140.out
      have hnb17 := NB140_143.out
      have hnc17 := NB143_140.out
      have hcz18_0 : w8.cell? ⟨gb140, 0, none⟩ = some (.int .i64 a0_0) := (blk_cell BK140.out 0).trans rfl
      have hfz18_0 := blk_frozen BK140.out 0
      go_wp2_with (first | ((with_reducible refine gate_callee (f := 14) rfl ?_); refine goesL_ (some 10) rfl rfl Tryd.func14 (by kernel_rfl) rfl #[.agg #[.int .i64 a0_0]] rfl (by (try simp only [List.map_toArray, List.map_cons, List.map_nil]); first | done | rfl | (simp only [List.length_drop, List.length_take]; rfl)) ?_; (with_reducible refine (modbus_Check.calls a0_0 t144 _ A9.out).mono ?_); rintro e w19 ⟨rfl, hb⟩; refine ⟨_, rfl, ?_⟩; have n0_ := Aside0.mk (blkb BK140.out hb); have n1_ := Aside0.mk (blkb BK141.out hb); have n2_ := Aside0.mk (blkb BK142.out hb); have n3_ := Aside0.mk (blkb BK143.out hb); have n4_ := Aside0.mk (below_step (hbw HB.out) hb); clear BK140; clear BK141; clear BK142; clear BK143; clear HB; have BK140 := n0_; have BK141 := n1_; have BK142 := n2_; have BK143 := n3_; have HB := n4_; clear n0_ n1_ n2_ n3_ n4_; (try clear hb); (try clear hb2); (try clear hk); (try clear hi); have hnb20 := NB142_141.out; have hnc20 := NB141_142.out; have hnb21 := NB142_143.out; have hnc21 := NB143_142.out; have hcz22_0 : w19.cell? ⟨gb142, 0, none⟩ = some (.int .i64 a2_0) := (blk_cell BK142.out 0).trans rfl; have hcz22_1 : w19.cell? ⟨gb142, 1, none⟩ = some (.int .i64 a2_1) := (blk_cell BK142.out 1).trans rfl; have hcz22_2 : w19.cell? ⟨gb142, 2, none⟩ = some (.int .i64 a2_2) := (blk_cell BK142.out 2).trans rfl; have hcz22_3 : w19.cell? ⟨gb142, 3, none⟩ = some (.int .i64 a2_3) := (blk_cell BK142.out 3).trans rfl; have hcz22_4 : w19.cell? ⟨gb142, 4, none⟩ = some (.int .i64 a2_4) := (blk_cell BK142.out 4).trans rfl; have hcz22_5 : w19.cell? ⟨gb142, 5, none⟩ = some (.string a2_5) := (blk_cell BK142.out 5).trans rfl; have hcz22_6 : w19.cell? ⟨gb142, 6, none⟩ = some (.int .i64 a2_6) := (blk_cell BK142.out 6).trans rfl; have hfz22_0 := blk_frozen BK142.out 0; have hfz22_1 := blk_frozen BK142.out 1; have hfz22_2 := blk_frozen BK142.out 2; have hfz22_3 := blk_frozen BK142.out 3; have hfz22_4 := blk_frozen BK142.out 4; have hfz22_5 := blk_frozen BK142.out 5; have hfz22_6 := blk_frozen BK142.out 6) | (go_at_call 26; (with_reducible refine (event_Valid.calls k a2_0 a2_1 a2_2 a2_3 a2_4 a2_5 a2_6 true _ A11.out).mono ?_); rintro e w23 ⟨rfl, hb⟩; have n0_ := Aside0.mk (blkb BK140.out hb); have n1_ := Aside0.mk (blkb BK141.out hb); have n2_ := Aside0.mk (blkb BK142.out hb); have n3_ := Aside0.mk (blkb BK143.out hb); have n4_ := Aside0.mk (below_step (hbw HB.out) hb); clear BK140; clear BK141; clear BK142; clear BK143; clear HB; have BK140 := n0_; have BK141 := n1_; have BK142 := n2_; have BK143 := n3_; have HB := n4_; clear n0_ n1_ n2_ n3_ n4_; (try clear hb); (try clear hb2); (try clear hk); (try clear hi); have hcz24_0 : w23.cell? ⟨gb142, 0, none⟩ = some (.int .i64 a2_0) := (blk_cell BK142.out 0).trans rfl; have hcz24_1 : w23.cell? ⟨gb142, 1, none⟩ = some (.int .i64 a2_1) := (blk_cell BK142.out 1).trans rfl; have hcz24_2 : w23.cell? ⟨gb142, 2, none⟩ = some (.int .i64 a2_2) := (blk_cell BK142.out 2).trans rfl; have hcz24_3 : w23.cell? ⟨gb142, 3, none⟩ = some (.int .i64 a2_3) := (blk_cell BK142.out 3).trans rfl; have hcz24_4 : w23.cell? ⟨gb142, 4, none⟩ = some (.int .i64 a2_4) := (blk_cell BK142.out 4).trans rfl; have hcz24_5 : w23.cell? ⟨gb142, 5, none⟩ = some (.string a2_5) := (blk_cell BK142.out 5).trans rfl; have hcz24_6 : w23.cell? ⟨gb142, 6, none⟩ = some (.int .i64 a2_6) := (blk_cell BK142.out 6).trans rfl; have hfz24_0 := blk_frozen BK142.out 0; have hfz24_1 := blk_frozen BK142.out 1; have hfz24_2 := blk_frozen BK142.out 2; have hfz24_3 := blk_frozen BK142.out 3; have hfz24_4 := blk_frozen BK142.out 4; have hfz24_5 := blk_frozen BK142.out 5; have hfz24_6 := blk_frozen BK142.out 6; have hnb25 := NB141_143.out; have hnc25 := NB143_141.out; have hcz26_0 : w23.cell? ⟨gb141, 0, none⟩ = some (.int .i64 a1_0) := (blk_cell BK141.out 0).trans rfl; have hcz26_1 : w23.cell? ⟨gb141, 1, none⟩ = some (.int .i64 a1_1) := (blk_cell BK141.out 1).trans rfl; have hcz26_2 : w23.cell? ⟨gb141, 2, none⟩ = some (.int .i64 a1_2) := (blk_cell BK141.out 2).trans rfl; have hcz26_3 : w23.cell? ⟨gb141, 3, none⟩ = some (.int .i64 a1_3) := (blk_cell BK141.out 3).trans rfl; have hcz26_4 : w23.cell? ⟨gb141, 4, none⟩ = some (.int .i64 a1_4) := (blk_cell BK141.out 4).trans rfl; have hcz26_5 : w23.cell? ⟨gb141, 5, none⟩ = some (.int .i64 a1_5) := (blk_cell BK141.out 5).trans rfl; have hcz26_6 : w23.cell? ⟨gb141, 6, none⟩ = some (.int .i64 a1_6) := (blk_cell BK141.out 6).trans rfl; have hcz26_7 : w23.cell? ⟨gb141, 7, none⟩ = some (.string a1_7) := (blk_cell BK141.out 7).trans rfl; have hfz26_0 := blk_frozen BK141.out 0; have hfz26_1 := blk_frozen BK141.out 1; have hfz26_2 := blk_frozen BK141.out 2; have hfz26_3 := blk_frozen BK141.out 3; have hfz26_4 := blk_frozen BK141.out 4; have hfz26_5 := blk_frozen BK141.out 5; have hfz26_6 := blk_frozen BK141.out 6; have hfz26_7 := blk_frozen BK141.out 7))
      go_meet
      case rel => exact ⟨_, (true), (by first | rfl | (simp; done) | (simp [*]; done)), H', ⟨by first | omega | exact Nat.le_refl _⟩, ⟨by (with_reducible repeat (first | refine blk_drewN ?_ _ | refine blk_drew ?_ | refine blk_alloc ?_ _)); exact BK140.out⟩, ⟨by (with_reducible repeat (first | refine blk_drewN ?_ _ | refine blk_drew ?_ | refine blk_alloc ?_ _)); exact BK141.out⟩, ⟨by (with_reducible repeat (first | refine blk_drewN ?_ _ | refine blk_drew ?_ | refine blk_alloc ?_ _)); exact BK142.out⟩, ⟨by (with_reducible repeat (first | refine blk_drewN ?_ _ | refine blk_drew ?_ | refine blk_alloc ?_ _)); exact BK143.out⟩, ⟨by repeat (first | (with_reducible first | exact HB.out | apply below_alloc | apply pw_below_drewN | apply below_drew1 | refine below_set ?_ GE140.out | refine below_set ?_ GE141.out | refine below_set ?_ GE142.out | refine below_set ?_ GE143.out) | exact HB.out)⟩⟩
     ·rw [if_neg c14] at H
      have c14b0 : decide (a2_1 < a1_1) = false := decide_eq_false c14
      clear c14
      have H' := Aside0.mk H
      clear H
      have hnb27 := NB140_141.out
      have hnc27 := NB141_140.out
      have hnb28 := NB140_142.out
      have hnc28 := NB142_140.out
      have hnb29 := NB140_143.out
      have hnc29 := NB143_140.out
      have hcz30_0 : w8.cell? ⟨gb140, 0, none⟩ = some (.int .i64 a0_0) := (blk_cell BK140.out 0).trans rfl
      have hfz30_0 := blk_frozen BK140.out 0
      go_wp2_with (first | ((with_reducible refine gate_callee (f := 14) rfl ?_); refine goesL_ (some 10) rfl rfl Tryd.func14 (by kernel_rfl) rfl #[.agg #[.int .i64 a0_0]] rfl (by (try simp only [List.map_toArray, List.map_cons, List.map_nil]); first | done | rfl | (simp only [List.length_drop, List.length_take]; rfl)) ?_; (with_reducible refine (modbus_Check.calls a0_0 t144 _ A9.out).mono ?_); rintro e w31 ⟨rfl, hb⟩; refine ⟨_, rfl, ?_⟩; have n0_ := Aside0.mk (blkb BK140.out hb); have n1_ := Aside0.mk (blkb BK141.out hb); have n2_ := Aside0.mk (blkb BK142.out hb); have n3_ := Aside0.mk (blkb BK143.out hb); have n4_ := Aside0.mk (below_step (hbw HB.out) hb); clear BK140; clear BK141; clear BK142; clear BK143; clear HB; have BK140 := n0_; have BK141 := n1_; have BK142 := n2_; have BK143 := n3_; have HB := n4_; clear n0_ n1_ n2_ n3_ n4_; (try clear hb); (try clear hb2); (try clear hk); (try clear hi); have hnb32 := NB142_141.out; have hnc32 := NB141_142.out; have hnb33 := NB142_143.out; have hnc33 := NB143_142.out; have hcz34_0 : w31.cell? ⟨gb142, 0, none⟩ = some (.int .i64 a2_0) := (blk_cell BK142.out 0).trans rfl; have hcz34_1 : w31.cell? ⟨gb142, 1, none⟩ = some (.int .i64 a2_1) := (blk_cell BK142.out 1).trans rfl; have hcz34_2 : w31.cell? ⟨gb142, 2, none⟩ = some (.int .i64 a2_2) := (blk_cell BK142.out 2).trans rfl; have hcz34_3 : w31.cell? ⟨gb142, 3, none⟩ = some (.int .i64 a2_3) := (blk_cell BK142.out 3).trans rfl; have hcz34_4 : w31.cell? ⟨gb142, 4, none⟩ = some (.int .i64 a2_4) := (blk_cell BK142.out 4).trans rfl; have hcz34_5 : w31.cell? ⟨gb142, 5, none⟩ = some (.string a2_5) := (blk_cell BK142.out 5).trans rfl; have hcz34_6 : w31.cell? ⟨gb142, 6, none⟩ = some (.int .i64 a2_6) := (blk_cell BK142.out 6).trans rfl; have hfz34_0 := blk_frozen BK142.out 0; have hfz34_1 := blk_frozen BK142.out 1; have hfz34_2 := blk_frozen BK142.out 2; have hfz34_3 := blk_frozen BK142.out 3; have hfz34_4 := blk_frozen BK142.out 4; have hfz34_5 := blk_frozen BK142.out 5; have hfz34_6 := blk_frozen BK142.out 6) | (go_at_call 26; (with_reducible refine (event_Valid.calls k a2_0 a2_1 a2_2 a2_3 a2_4 a2_5 a2_6 true _ A11.out).mono ?_); rintro e w35 ⟨rfl, hb⟩; have n0_ := Aside0.mk (blkb BK140.out hb); have n1_ := Aside0.mk (blkb BK141.out hb); have n2_ := Aside0.mk (blkb BK142.out hb); have n3_ := Aside0.mk (blkb BK143.out hb); have n4_ := Aside0.mk (below_step (hbw HB.out) hb); clear BK140; clear BK141; clear BK142; clear BK143; clear HB; have BK140 := n0_; have BK141 := n1_; have BK142 := n2_; have BK143 := n3_; have HB := n4_; clear n0_ n1_ n2_ n3_ n4_; (try clear hb); (try clear hb2); (try clear hk); (try clear hi); have hcz36_0 : w35.cell? ⟨gb142, 0, none⟩ = some (.int .i64 a2_0) := (blk_cell BK142.out 0).trans rfl; have hcz36_1 : w35.cell? ⟨gb142, 1, none⟩ = some (.int .i64 a2_1) := (blk_cell BK142.out 1).trans rfl; have hcz36_2 : w35.cell? ⟨gb142, 2, none⟩ = some (.int .i64 a2_2) := (blk_cell BK142.out 2).trans rfl; have hcz36_3 : w35.cell? ⟨gb142, 3, none⟩ = some (.int .i64 a2_3) := (blk_cell BK142.out 3).trans rfl; have hcz36_4 : w35.cell? ⟨gb142, 4, none⟩ = some (.int .i64 a2_4) := (blk_cell BK142.out 4).trans rfl; have hcz36_5 : w35.cell? ⟨gb142, 5, none⟩ = some (.string a2_5) := (blk_cell BK142.out 5).trans rfl; have hcz36_6 : w35.cell? ⟨gb142, 6, none⟩ = some (.int .i64 a2_6) := (blk_cell BK142.out 6).trans rfl; have hfz36_0 := blk_frozen BK142.out 0; have hfz36_1 := blk_frozen BK142.out 1; have hfz36_2 := blk_frozen BK142.out 2; have hfz36_3 := blk_frozen BK142.out 3; have hfz36_4 := blk_frozen BK142.out 4; have hfz36_5 := blk_frozen BK142.out 5; have hfz36_6 := blk_frozen BK142.out 6; have hnb37 := NB141_143.out; have hnc37 := NB143_141.out; have hcz38_0 : w35.cell? ⟨gb141, 0, none⟩ = some (.int .i64 a1_0) := (blk_cell BK141.out 0).trans rfl; have hcz38_1 : w35.cell? ⟨gb141, 1, none⟩ = some (.int .i64 a1_1) := (blk_cell BK141.out 1).trans rfl; have hcz38_2 : w35.cell? ⟨gb141, 2, none⟩ = some (.int .i64 a1_2) := (blk_cell BK141.out 2).trans rfl; have hcz38_3 : w35.cell? ⟨gb141, 3, none⟩ = some (.int .i64 a1_3) := (blk_cell BK141.out 3).trans rfl; have hcz38_4 : w35.cell? ⟨gb141, 4, none⟩ = some (.int .i64 a1_4) := (blk_cell BK141.out 4).trans rfl; have hcz38_5 : w35.cell? ⟨gb141, 5, none⟩ = some (.int .i64 a1_5) := (blk_cell BK141.out 5).trans rfl; have hcz38_6 : w35.cell? ⟨gb141, 6, none⟩ = some (.int .i64 a1_6) := (blk_cell BK141.out 6).trans rfl; have hcz38_7 : w35.cell? ⟨gb141, 7, none⟩ = some (.string a1_7) := (blk_cell BK141.out 7).trans rfl; have hfz38_0 := blk_frozen BK141.out 0; have hfz38_1 := blk_frozen BK141.out 1; have hfz38_2 := blk_frozen BK141.out 2; have hfz38_3 := blk_frozen BK141.out 3; have hfz38_4 := blk_frozen BK141.out 4; have hfz38_5 := blk_frozen BK141.out 5; have hfz38_6 := blk_frozen BK141.out 6; have hfz38_7 := blk_frozen BK141.out 7))
      go_meet
      case rel => exact ⟨_, (((Go.bits .andNot .i64 a2_3 255) != 0)), (by first | rfl | (simp; done) | (simp [*]; done)), H', ⟨by first | omega | exact Nat.le_refl _⟩, ⟨by (with_reducible repeat (first | refine blk_drewN ?_ _ | refine blk_drew ?_ | refine blk_alloc ?_ _)); exact BK140.out⟩, ⟨by (with_reducible repeat (first | refine blk_drewN ?_ _ | refine blk_drew ?_ | refine blk_alloc ?_ _)); exact BK141.out⟩, ⟨by (with_reducible repeat (first | refine blk_drewN ?_ _ | refine blk_drew ?_ | refine blk_alloc ?_ _)); exact BK142.out⟩, ⟨by (with_reducible repeat (first | refine blk_drewN ?_ _ | refine blk_drew ?_ | refine blk_alloc ?_ _)); exact BK143.out⟩, ⟨by repeat (first | (with_reducible first | exact HB.out | apply below_alloc | apply pw_below_drewN | apply below_drew1 | refine below_set ?_ GE140.out | refine below_set ?_ GE141.out | refine below_set ?_ GE142.out | refine below_set ?_ GE143.out) | exact HB.out)⟩⟩
    ·rw [if_neg c13] at H
     have c13b0 : (a2_0 == 3) = false := beq_eq_false_iff_ne.mpr c13
     have c13b1 : (a2_0 != 3) = true := bne_iff_ne.mpr c13
     have H' := Aside0.mk H
     clear H
     have hnb39 := NB140_141.out
     have hnc39 := NB141_140.out
     have hnb40 := NB140_142.out
     have hnc40 := NB142_140.out
     have hnb41 := NB140_143.out
     have hnc41 := NB143_140.out
     have hcz42_0 : w8.cell? ⟨gb140, 0, none⟩ = some (.int .i64 a0_0) := (blk_cell BK140.out 0).trans rfl
     have hfz42_0 := blk_frozen BK140.out 0
     go_wp2_with (first | ((with_reducible refine gate_callee (f := 14) rfl ?_); refine goesL_ (some 10) rfl rfl Tryd.func14 (by kernel_rfl) rfl #[.agg #[.int .i64 a0_0]] rfl (by (try simp only [List.map_toArray, List.map_cons, List.map_nil]); first | done | rfl | (simp only [List.length_drop, List.length_take]; rfl)) ?_; (with_reducible refine (modbus_Check.calls a0_0 t144 _ A9.out).mono ?_); rintro e w43 ⟨rfl, hb⟩; refine ⟨_, rfl, ?_⟩; have n0_ := Aside0.mk (blkb BK140.out hb); have n1_ := Aside0.mk (blkb BK141.out hb); have n2_ := Aside0.mk (blkb BK142.out hb); have n3_ := Aside0.mk (blkb BK143.out hb); have n4_ := Aside0.mk (below_step (hbw HB.out) hb); clear BK140; clear BK141; clear BK142; clear BK143; clear HB; have BK140 := n0_; have BK141 := n1_; have BK142 := n2_; have BK143 := n3_; have HB := n4_; clear n0_ n1_ n2_ n3_ n4_; (try clear hb); (try clear hb2); (try clear hk); (try clear hi); have hnb44 := NB142_141.out; have hnc44 := NB141_142.out; have hnb45 := NB142_143.out; have hnc45 := NB143_142.out; have hcz46_0 : w43.cell? ⟨gb142, 0, none⟩ = some (.int .i64 a2_0) := (blk_cell BK142.out 0).trans rfl; have hcz46_1 : w43.cell? ⟨gb142, 1, none⟩ = some (.int .i64 a2_1) := (blk_cell BK142.out 1).trans rfl; have hcz46_2 : w43.cell? ⟨gb142, 2, none⟩ = some (.int .i64 a2_2) := (blk_cell BK142.out 2).trans rfl; have hcz46_3 : w43.cell? ⟨gb142, 3, none⟩ = some (.int .i64 a2_3) := (blk_cell BK142.out 3).trans rfl; have hcz46_4 : w43.cell? ⟨gb142, 4, none⟩ = some (.int .i64 a2_4) := (blk_cell BK142.out 4).trans rfl; have hcz46_5 : w43.cell? ⟨gb142, 5, none⟩ = some (.string a2_5) := (blk_cell BK142.out 5).trans rfl; have hcz46_6 : w43.cell? ⟨gb142, 6, none⟩ = some (.int .i64 a2_6) := (blk_cell BK142.out 6).trans rfl; have hfz46_0 := blk_frozen BK142.out 0; have hfz46_1 := blk_frozen BK142.out 1; have hfz46_2 := blk_frozen BK142.out 2; have hfz46_3 := blk_frozen BK142.out 3; have hfz46_4 := blk_frozen BK142.out 4; have hfz46_5 := blk_frozen BK142.out 5; have hfz46_6 := blk_frozen BK142.out 6) | (go_at_call 26; (with_reducible refine (event_Valid.calls k a2_0 a2_1 a2_2 a2_3 a2_4 a2_5 a2_6 true _ A11.out).mono ?_); rintro e w47 ⟨rfl, hb⟩; have n0_ := Aside0.mk (blkb BK140.out hb); have n1_ := Aside0.mk (blkb BK141.out hb); have n2_ := Aside0.mk (blkb BK142.out hb); have n3_ := Aside0.mk (blkb BK143.out hb); have n4_ := Aside0.mk (below_step (hbw HB.out) hb); clear BK140; clear BK141; clear BK142; clear BK143; clear HB; have BK140 := n0_; have BK141 := n1_; have BK142 := n2_; have BK143 := n3_; have HB := n4_; clear n0_ n1_ n2_ n3_ n4_; (try clear hb); (try clear hb2); (try clear hk); (try clear hi); have hcz48_0 : w47.cell? ⟨gb142, 0, none⟩ = some (.int .i64 a2_0) := (blk_cell BK142.out 0).trans rfl; have hcz48_1 : w47.cell? ⟨gb142, 1, none⟩ = some (.int .i64 a2_1) := (blk_cell BK142.out 1).trans rfl; have hcz48_2 : w47.cell? ⟨gb142, 2, none⟩ = some (.int .i64 a2_2) := (blk_cell BK142.out 2).trans rfl; have hcz48_3 : w47.cell? ⟨gb142, 3, none⟩ = some (.int .i64 a2_3) := (blk_cell BK142.out 3).trans rfl; have hcz48_4 : w47.cell? ⟨gb142, 4, none⟩ = some (.int .i64 a2_4) := (blk_cell BK142.out 4).trans rfl; have hcz48_5 : w47.cell? ⟨gb142, 5, none⟩ = some (.string a2_5) := (blk_cell BK142.out 5).trans rfl; have hcz48_6 : w47.cell? ⟨gb142, 6, none⟩ = some (.int .i64 a2_6) := (blk_cell BK142.out 6).trans rfl; have hfz48_0 := blk_frozen BK142.out 0; have hfz48_1 := blk_frozen BK142.out 1; have hfz48_2 := blk_frozen BK142.out 2; have hfz48_3 := blk_frozen BK142.out 3; have hfz48_4 := blk_frozen BK142.out 4; have hfz48_5 := blk_frozen BK142.out 5; have hfz48_6 := blk_frozen BK142.out 6))
     go_meet
     case rel => exact ⟨_, (true), (by first | rfl | (simp; done) | (simp [*]; done)), H', ⟨by first | omega | exact Nat.le_refl _⟩, ⟨by (with_reducible repeat (first | refine blk_drewN ?_ _ | refine blk_drew ?_ | refine blk_alloc ?_ _)); exact BK140.out⟩, ⟨by (with_reducible repeat (first | refine blk_drewN ?_ _ | refine blk_drew ?_ | refine blk_alloc ?_ _)); exact BK141.out⟩, ⟨by (with_reducible repeat (first | refine blk_drewN ?_ _ | refine blk_drew ?_ | refine blk_alloc ?_ _)); exact BK142.out⟩, ⟨by (with_reducible repeat (first | refine blk_drewN ?_ _ | refine blk_drew ?_ | refine blk_alloc ?_ _)); exact BK143.out⟩, ⟨by repeat (first | (with_reducible first | exact HB.out | apply below_alloc | apply pw_below_drewN | apply below_drew1 | refine below_set ?_ GE140.out | refine below_set ?_ GE141.out | refine below_set ?_ GE142.out | refine below_set ?_ GE143.out) | exact HB.out)⟩⟩
   ·replace c12 := Bool.eq_false_iff.mpr c12
    subst c12
    have H1 : (modbus_Step.j0 k true a0_0 a1_0 a1_1 a1_2 a1_3 a1_4 a1_5 a1_6 a1_7 a2_0 a2_1 a2_2 a2_3 a2_4 a2_5 a2_6) = some (r1, r2, r3, r4, r5, r6, r7, r8, r9) := by rw [if_neg (show ¬ (false = true) by decide)] at H; exact H
    clear H
    have H := H1
    clear H1
    have H' := Aside0.mk H
    clear H
    have hnb49 := NB140_141.out
    have hnc49 := NB141_140.out
    have hnb50 := NB140_142.out
    have hnc50 := NB142_140.out
    have hnb51 := NB140_143.out
    have hnc51 := NB143_140.out
    have hcz52_0 : w8.cell? ⟨gb140, 0, none⟩ = some (.int .i64 a0_0) := (blk_cell BK140.out 0).trans rfl
    have hfz52_0 := blk_frozen BK140.out 0
    go_wp2_with (first | ((with_reducible refine gate_callee (f := 14) rfl ?_); refine goesL_ (some 10) rfl rfl Tryd.func14 (by kernel_rfl) rfl #[.agg #[.int .i64 a0_0]] rfl (by (try simp only [List.map_toArray, List.map_cons, List.map_nil]); first | done | rfl | (simp only [List.length_drop, List.length_take]; rfl)) ?_; (with_reducible refine (modbus_Check.calls a0_0 t144 _ A9.out).mono ?_); rintro e w53 ⟨rfl, hb⟩; refine ⟨_, rfl, ?_⟩; have n0_ := Aside0.mk (blkb BK140.out hb); have n1_ := Aside0.mk (blkb BK141.out hb); have n2_ := Aside0.mk (blkb BK142.out hb); have n3_ := Aside0.mk (blkb BK143.out hb); have n4_ := Aside0.mk (below_step (hbw HB.out) hb); clear BK140; clear BK141; clear BK142; clear BK143; clear HB; have BK140 := n0_; have BK141 := n1_; have BK142 := n2_; have BK143 := n3_; have HB := n4_; clear n0_ n1_ n2_ n3_ n4_; (try clear hb); (try clear hb2); (try clear hk); (try clear hi); have hnb54 := NB142_141.out; have hnc54 := NB141_142.out; have hnb55 := NB142_143.out; have hnc55 := NB143_142.out; have hcz56_0 : w53.cell? ⟨gb142, 0, none⟩ = some (.int .i64 a2_0) := (blk_cell BK142.out 0).trans rfl; have hcz56_1 : w53.cell? ⟨gb142, 1, none⟩ = some (.int .i64 a2_1) := (blk_cell BK142.out 1).trans rfl; have hcz56_2 : w53.cell? ⟨gb142, 2, none⟩ = some (.int .i64 a2_2) := (blk_cell BK142.out 2).trans rfl; have hcz56_3 : w53.cell? ⟨gb142, 3, none⟩ = some (.int .i64 a2_3) := (blk_cell BK142.out 3).trans rfl; have hcz56_4 : w53.cell? ⟨gb142, 4, none⟩ = some (.int .i64 a2_4) := (blk_cell BK142.out 4).trans rfl; have hcz56_5 : w53.cell? ⟨gb142, 5, none⟩ = some (.string a2_5) := (blk_cell BK142.out 5).trans rfl; have hcz56_6 : w53.cell? ⟨gb142, 6, none⟩ = some (.int .i64 a2_6) := (blk_cell BK142.out 6).trans rfl; have hfz56_0 := blk_frozen BK142.out 0; have hfz56_1 := blk_frozen BK142.out 1; have hfz56_2 := blk_frozen BK142.out 2; have hfz56_3 := blk_frozen BK142.out 3; have hfz56_4 := blk_frozen BK142.out 4; have hfz56_5 := blk_frozen BK142.out 5; have hfz56_6 := blk_frozen BK142.out 6) | (go_at_call 26; (with_reducible refine (event_Valid.calls k a2_0 a2_1 a2_2 a2_3 a2_4 a2_5 a2_6 false _ A11.out).mono ?_); rintro e w57 ⟨rfl, hb⟩; have n0_ := Aside0.mk (blkb BK140.out hb); have n1_ := Aside0.mk (blkb BK141.out hb); have n2_ := Aside0.mk (blkb BK142.out hb); have n3_ := Aside0.mk (blkb BK143.out hb); have n4_ := Aside0.mk (below_step (hbw HB.out) hb); clear BK140; clear BK141; clear BK142; clear BK143; clear HB; have BK140 := n0_; have BK141 := n1_; have BK142 := n2_; have BK143 := n3_; have HB := n4_; clear n0_ n1_ n2_ n3_ n4_; (try clear hb); (try clear hb2); (try clear hk); (try clear hi)))
    go_meet
    case rel => exact ⟨_, (true), (by first | rfl | (simp; done) | (simp [*]; done)), H', ⟨by first | omega | exact Nat.le_refl _⟩, ⟨by (with_reducible repeat (first | refine blk_drewN ?_ _ | refine blk_drew ?_ | refine blk_alloc ?_ _)); exact BK140.out⟩, ⟨by (with_reducible repeat (first | refine blk_drewN ?_ _ | refine blk_drew ?_ | refine blk_alloc ?_ _)); exact BK141.out⟩, ⟨by (with_reducible repeat (first | refine blk_drewN ?_ _ | refine blk_drew ?_ | refine blk_alloc ?_ _)); exact BK142.out⟩, ⟨by (with_reducible repeat (first | refine blk_drewN ?_ _ | refine blk_drew ?_ | refine blk_alloc ?_ _)); exact BK143.out⟩, ⟨by repeat (first | (with_reducible first | exact HB.out | apply below_alloc | apply pw_below_drewN | apply below_drew1 | refine below_set ?_ GE140.out | refine below_set ?_ GE141.out | refine below_set ?_ GE142.out | refine below_set ?_ GE143.out) | exact HB.out)⟩⟩
  ·rw [if_neg c10] at H
   have c10b0 : (t144 == 0) = false := beq_eq_false_iff_ne.mpr c10
   have c10b1 : (t144 != 0) = true := bne_iff_ne.mpr c10
   (first | rw [c10b0] | (simp only [i64_w, i32_w]; rw [c10b0]) | skip)
   have H' := Aside0.mk H
   clear H
   have hnb58 := NB140_141.out
   have hnc58 := NB141_140.out
   have hnb59 := NB140_142.out
   have hnc59 := NB142_140.out
   have hnb60 := NB140_143.out
   have hnc60 := NB143_140.out
   have hcz61_0 : w8.cell? ⟨gb140, 0, none⟩ = some (.int .i64 a0_0) := (blk_cell BK140.out 0).trans rfl
   have hfz61_0 := blk_frozen BK140.out 0
   go_wp2_with (first | ((with_reducible refine gate_callee (f := 14) rfl ?_); refine goesL_ (some 10) rfl rfl Tryd.func14 (by kernel_rfl) rfl #[.agg #[.int .i64 a0_0]] rfl (by (try simp only [List.map_toArray, List.map_cons, List.map_nil]); first | done | rfl | (simp only [List.length_drop, List.length_take]; rfl)) ?_; (with_reducible refine (modbus_Check.calls a0_0 t144 _ A9.out).mono ?_); rintro e w62 ⟨rfl, hb⟩; refine ⟨_, rfl, ?_⟩; have n0_ := Aside0.mk (blkb BK140.out hb); have n1_ := Aside0.mk (blkb BK141.out hb); have n2_ := Aside0.mk (blkb BK142.out hb); have n3_ := Aside0.mk (blkb BK143.out hb); have n4_ := Aside0.mk (below_step (hbw HB.out) hb); clear BK140; clear BK141; clear BK142; clear BK143; clear HB; have BK140 := n0_; have BK141 := n1_; have BK142 := n2_; have BK143 := n3_; have HB := n4_; clear n0_ n1_ n2_ n3_ n4_; (try clear hb); (try clear hb2); (try clear hk); (try clear hi)))
   go_meet
   case rel => exact ⟨_, (true), (by first | rfl | (simp; done) | (simp [*]; done)), H', ⟨by first | omega | exact Nat.le_refl _⟩, ⟨by (with_reducible repeat (first | refine blk_drewN ?_ _ | refine blk_drew ?_ | refine blk_alloc ?_ _)); exact BK140.out⟩, ⟨by (with_reducible repeat (first | refine blk_drewN ?_ _ | refine blk_drew ?_ | refine blk_alloc ?_ _)); exact BK141.out⟩, ⟨by (with_reducible repeat (first | refine blk_drewN ?_ _ | refine blk_drew ?_ | refine blk_alloc ?_ _)); exact BK142.out⟩, ⟨by (with_reducible repeat (first | refine blk_drewN ?_ _ | refine blk_drew ?_ | refine blk_alloc ?_ _)); exact BK143.out⟩, ⟨by repeat (first | (with_reducible first | exact HB.out | apply below_alloc | apply pw_below_drewN | apply below_drew1 | refine below_set ?_ GE140.out | refine below_set ?_ GE141.out | refine below_set ?_ GE142.out | refine below_set ?_ GE143.out) | exact HB.out)⟩⟩
 case rest =>
  clear HC4
  try clear c1
  try clear c2
  try clear p2
  try clear c3
  try clear c4
  try clear c5
  try clear c6
  try clear c10
  try clear c10b0
  try clear c10b1
  try clear c11
  try clear c12
  try clear c13
  try clear c13b0
  try clear c13b1
  try clear c14
  try clear c14b0
  try clear c15
  try clear c16
  try clear c17
  try clear c20
  try clear c21
  try clear c25
  try clear c27
  try clear c28
  try clear c29
  try clear c32
  try clear c33
  try clear c37
  try clear c39
  try clear c40
  try clear c41
  try clear c44
  try clear c45
  try clear c49
  try clear c50
  try clear c51
  try clear c54
  try clear c55
  try clear c58
  try clear c59
  try clear c60
  try clear hcz18_0
  try clear hcz22_0
  try clear hcz22_1
  try clear hcz22_2
  try clear hcz22_3
  try clear hcz22_4
  try clear hcz22_5
  try clear hcz22_6
  try clear hcz24_0
  try clear hcz24_1
  try clear hcz24_2
  try clear hcz24_3
  try clear hcz24_4
  try clear hcz24_5
  try clear hcz24_6
  try clear hcz26_0
  try clear hcz26_1
  try clear hcz26_2
  try clear hcz26_3
  try clear hcz26_4
  try clear hcz26_5
  try clear hcz26_6
  try clear hcz26_7
  try clear hcz30_0
  try clear hcz34_0
  try clear hcz34_1
  try clear hcz34_2
  try clear hcz34_3
  try clear hcz34_4
  try clear hcz34_5
  try clear hcz34_6
  try clear hcz36_0
  try clear hcz36_1
  try clear hcz36_2
  try clear hcz36_3
  try clear hcz36_4
  try clear hcz36_5
  try clear hcz36_6
  try clear hcz38_0
  try clear hcz38_1
  try clear hcz38_2
  try clear hcz38_3
  try clear hcz38_4
  try clear hcz38_5
  try clear hcz38_6
  try clear hcz38_7
  try clear hcz42_0
  try clear hcz46_0
  try clear hcz46_1
  try clear hcz46_2
  try clear hcz46_3
  try clear hcz46_4
  try clear hcz46_5
  try clear hcz46_6
  try clear hcz48_0
  try clear hcz48_1
  try clear hcz48_2
  try clear hcz48_3
  try clear hcz48_4
  try clear hcz48_5
  try clear hcz48_6
  try clear hcz52_0
  try clear hcz56_0
  try clear hcz56_1
  try clear hcz56_2
  try clear hcz56_3
  try clear hcz56_4
  try clear hcz56_5
  try clear hcz56_6
  try clear hcz61_0
  try clear hfz18_0
  try clear hfz22_0
  try clear hfz22_1
  try clear hfz22_2
  try clear hfz22_3
  try clear hfz22_4
  try clear hfz22_5
  try clear hfz22_6
  try clear hfz24_0
  try clear hfz24_1
  try clear hfz24_2
  try clear hfz24_3
  try clear hfz24_4
  try clear hfz24_5
  try clear hfz24_6
  try clear hfz26_0
  try clear hfz26_1
  try clear hfz26_2
  try clear hfz26_3
  try clear hfz26_4
  try clear hfz26_5
  try clear hfz26_6
  try clear hfz26_7
  try clear hfz30_0
  try clear hfz34_0
  try clear hfz34_1
  try clear hfz34_2
  try clear hfz34_3
  try clear hfz34_4
  try clear hfz34_5
  try clear hfz34_6
  try clear hfz36_0
  try clear hfz36_1
  try clear hfz36_2
  try clear hfz36_3
  try clear hfz36_4
  try clear hfz36_5
  try clear hfz36_6
  try clear hfz38_0
  try clear hfz38_1
  try clear hfz38_2
  try clear hfz38_3
  try clear hfz38_4
  try clear hfz38_5
  try clear hfz38_6
  try clear hfz38_7
  try clear hfz42_0
  try clear hfz46_0
  try clear hfz46_1
  try clear hfz46_2
  try clear hfz46_3
  try clear hfz46_4
  try clear hfz46_5
  try clear hfz46_6
  try clear hfz48_0
  try clear hfz48_1
  try clear hfz48_2
  try clear hfz48_3
  try clear hfz48_4
  try clear hfz48_5
  try clear hfz48_6
  try clear hfz52_0
  try clear hfz56_0
  try clear hfz56_1
  try clear hfz56_2
  try clear hfz56_3
  try clear hfz56_4
  try clear hfz56_5
  try clear hfz56_6
  try clear hfz61_0
  obtain ⟨kq, x34_3, rfl, HA, HJ3, BK140, BK141, BK142, BK143, HB⟩ := hcut
  cases kq with
  | zero => exact absurd HA.out (by simp [modbus_Step.j0])
  | succ kj3 =>
   have H := HA.out
   clear HA
   simp only [modbus_Step.j0] at H
   have HC63 := Aside0.mk H
   clear H
   go_upto_if 34 with (fail)
   go_cut [] (fun wc => ∃ (kq : Nat) (x144000_62 : Int) (x144001_62 : Int) (x144002_62 : Int) (x144003_62 : Int) (x144004_62 : Int) (x144005_62 : Int) (x144006_62 : Int) (x144007_62 : ByteArray), Aside0 (modbus_Step.j1 kq a0_0 a1_0 a1_1 a1_2 a1_3 a1_4 a1_5 a1_6 a1_7 a2_0 a2_1 a2_2 a2_3 a2_4 a2_5 a2_6 = some (r1, r2, r3, r4, r5, r6, r7, r8, r9)) ∧ Aside0 (kq ≤ kj3) ∧ Aside0 (wc.heap[gb140]? = some (.cells #[.int .i64 a0_0] 23 (0, 0))) ∧ Aside0 (wc.heap[gb141]? = some (.cells #[.int .i64 a1_0, .int .i64 a1_1, .int .i64 a1_2, .int .i64 a1_3, .int .i64 a1_4, .int .i64 a1_5, .int .i64 a1_6, .string a1_7] 27 (0, 0))) ∧ Aside0 (wc.heap[gb142]? = some (.cells #[.int .i64 a2_0, .int .i64 a2_1, .int .i64 a2_2, .int .i64 a2_3, .int .i64 a2_4, .string a2_5, .int .i64 a2_6] 32 (0, 0))) ∧ Aside0 (wc.heap[gb143]? = some (.cells #[.int .i64 x144000_62, .int .i64 x144001_62, .int .i64 x144002_62, .int .i64 x144003_62, .int .i64 x144004_62, .int .i64 x144005_62, .int .i64 x144006_62, .string x144007_62] 27 (0, 0))) ∧ Aside0 (Below w.heap.size w wc))
   case first =>
    have H := HC63.out
    clear HC63
    by_cases c64 : x34_3 = true
    ·subst c64
     have H1 : (some (a1_0, a1_1, a1_2, a1_3, a1_4, a1_5, a1_6, a1_7, ([] : List (S32)))) = some (r1, r2, r3, r4, r5, r6, r7, r8, r9) := by rw [if_pos rfl] at H; exact H
     clear H
     have H := H1
     clear H1
     simp only [Option.some.injEq, Prod.mk.injEq] at H
     obtain ⟨rfl, rfl, rfl, rfl, rfl, rfl, rfl, rfl, rfl⟩ := H
     have hnb65 := NB141_140.out
     have hnc65 := NB140_141.out
     have hnb66 := NB141_142.out
     have hnc66 := NB142_141.out
     have hnb67 := NB141_143.out
     have hnc67 := NB143_141.out
     have hcz68_0 : wc.cell? ⟨gb141, 0, none⟩ = some (.int .i64 a1_0) := (blk_cell BK141.out 0).trans rfl
     have hcz68_1 : wc.cell? ⟨gb141, 1, none⟩ = some (.int .i64 a1_1) := (blk_cell BK141.out 1).trans rfl
     have hcz68_2 : wc.cell? ⟨gb141, 2, none⟩ = some (.int .i64 a1_2) := (blk_cell BK141.out 2).trans rfl
     have hcz68_3 : wc.cell? ⟨gb141, 3, none⟩ = some (.int .i64 a1_3) := (blk_cell BK141.out 3).trans rfl
     have hcz68_4 : wc.cell? ⟨gb141, 4, none⟩ = some (.int .i64 a1_4) := (blk_cell BK141.out 4).trans rfl
     have hcz68_5 : wc.cell? ⟨gb141, 5, none⟩ = some (.int .i64 a1_5) := (blk_cell BK141.out 5).trans rfl
     have hcz68_6 : wc.cell? ⟨gb141, 6, none⟩ = some (.int .i64 a1_6) := (blk_cell BK141.out 6).trans rfl
     have hcz68_7 : wc.cell? ⟨gb141, 7, none⟩ = some (.string a1_7) := (blk_cell BK141.out 7).trans rfl
     have hfz68_0 := blk_frozen BK141.out 0
     have hfz68_1 := blk_frozen BK141.out 1
     have hfz68_2 := blk_frozen BK141.out 2
     have hfz68_3 := blk_frozen BK141.out 3
     have hfz68_4 := blk_frozen BK141.out 4
     have hfz68_5 := blk_frozen BK141.out 5
     have hfz68_6 := blk_frozen BK141.out 6
     have hfz68_7 := blk_frozen BK141.out 7
     have hnb69 := NB143_140.out
     have hnc69 := NB140_143.out
     have hnb70 := NB143_142.out
     have hnc70 := NB142_143.out
     have hcz71_0 : wc.cell? ⟨gb143, 0, none⟩ = some (.int .i64 0) := (blk_cell BK143.out 0).trans rfl
     have hcz71_1 : wc.cell? ⟨gb143, 1, none⟩ = some (.int .i64 0) := (blk_cell BK143.out 1).trans rfl
     have hcz71_2 : wc.cell? ⟨gb143, 2, none⟩ = some (.int .i64 0) := (blk_cell BK143.out 2).trans rfl
     have hcz71_3 : wc.cell? ⟨gb143, 3, none⟩ = some (.int .i64 0) := (blk_cell BK143.out 3).trans rfl
     have hcz71_4 : wc.cell? ⟨gb143, 4, none⟩ = some (.int .i64 0) := (blk_cell BK143.out 4).trans rfl
     have hcz71_5 : wc.cell? ⟨gb143, 5, none⟩ = some (.int .i64 0) := (blk_cell BK143.out 5).trans rfl
     have hcz71_6 : wc.cell? ⟨gb143, 6, none⟩ = some (.int .i64 0) := (blk_cell BK143.out 6).trans rfl
     have hcz71_7 : wc.cell? ⟨gb143, 7, none⟩ = some (.string (⟨#[]⟩ : ByteArray)) := (blk_cell BK143.out 7).trans rfl
     have hfz71_0 := blk_frozen BK143.out 0
     have hfz71_1 := blk_frozen BK143.out 1
     have hfz71_2 := blk_frozen BK143.out 2
     have hfz71_3 := blk_frozen BK143.out 3
     have hfz71_4 := blk_frozen BK143.out 4
     have hfz71_5 := blk_frozen BK143.out 5
     have hfz71_6 := blk_frozen BK143.out 6
     have hfz71_7 := blk_frozen BK143.out 7
     go_wp2
     refine bodyPost_ret (results_ct rfl _ _ gb143 27 #[.int .i64 a1_0, .int .i64 a1_1, .int .i64 a1_2, .int .i64 a1_3, .int .i64 a1_4, .int .i64 a1_5, .int .i64 a1_6, .string a1_7] (0, 0) _ rfl (by (with_reducible repeat (first | refine blk_drewN ?_ _ | refine blk_drew ?_ | refine blk_alloc ?_ _)); refine blk_put (cs := #[.int .i64 a1_0, .int .i64 a1_1, .int .i64 a1_2, .int .i64 a1_3, .int .i64 a1_4, .int .i64 a1_5, .int .i64 a1_6, .string (⟨#[]⟩ : ByteArray)]) ?_ 7 _ rfl; (with_reducible repeat (first | refine blk_drewN ?_ _ | refine blk_drew ?_ | refine blk_alloc ?_ _)); refine blk_put (cs := #[.int .i64 a1_0, .int .i64 a1_1, .int .i64 a1_2, .int .i64 a1_3, .int .i64 a1_4, .int .i64 a1_5, .int .i64 0, .string (⟨#[]⟩ : ByteArray)]) ?_ 6 _ rfl; (with_reducible repeat (first | refine blk_drewN ?_ _ | refine blk_drew ?_ | refine blk_alloc ?_ _)); refine blk_put (cs := #[.int .i64 a1_0, .int .i64 a1_1, .int .i64 a1_2, .int .i64 a1_3, .int .i64 a1_4, .int .i64 0, .int .i64 0, .string (⟨#[]⟩ : ByteArray)]) ?_ 5 _ rfl; (with_reducible repeat (first | refine blk_drewN ?_ _ | refine blk_drew ?_ | refine blk_alloc ?_ _)); refine blk_put (cs := #[.int .i64 a1_0, .int .i64 a1_1, .int .i64 a1_2, .int .i64 a1_3, .int .i64 0, .int .i64 0, .int .i64 0, .string (⟨#[]⟩ : ByteArray)]) ?_ 4 _ rfl; (with_reducible repeat (first | refine blk_drewN ?_ _ | refine blk_drew ?_ | refine blk_alloc ?_ _)); refine blk_put (cs := #[.int .i64 a1_0, .int .i64 a1_1, .int .i64 a1_2, .int .i64 0, .int .i64 0, .int .i64 0, .int .i64 0, .string (⟨#[]⟩ : ByteArray)]) ?_ 3 _ rfl; (with_reducible repeat (first | refine blk_drewN ?_ _ | refine blk_drew ?_ | refine blk_alloc ?_ _)); refine blk_put (cs := #[.int .i64 a1_0, .int .i64 a1_1, .int .i64 0, .int .i64 0, .int .i64 0, .int .i64 0, .int .i64 0, .string (⟨#[]⟩ : ByteArray)]) ?_ 2 _ rfl; (with_reducible repeat (first | refine blk_drewN ?_ _ | refine blk_drew ?_ | refine blk_alloc ?_ _)); refine blk_put (cs := #[.int .i64 a1_0, .int .i64 0, .int .i64 0, .int .i64 0, .int .i64 0, .int .i64 0, .int .i64 0, .string (⟨#[]⟩ : ByteArray)]) ?_ 1 _ rfl; (with_reducible repeat (first | refine blk_drewN ?_ _ | refine blk_drew ?_ | refine blk_alloc ?_ _)); refine blk_put (cs := #[.int .i64 0, .int .i64 0, .int .i64 0, .int .i64 0, .int .i64 0, .int .i64 0, .int .i64 0, .string (⟨#[]⟩ : ByteArray)]) ?_ 0 _ rfl; (with_reducible repeat (first | refine blk_drewN ?_ _ | refine blk_drew ?_ | refine blk_alloc ?_ _)); exact BK143.out) Tryd.underlying27 rfl (by kernel_rfl)) rfl ?_
     exact ⟨_, by first | rfl | (simp [errW_none, errW_some] <;> rfl) | (simp [*, errW_none, errW_some] <;> rfl), by first | exact Kd.R_nil _ _ _ _ _ | exact Kd.N_nil _ _ _ _ _ | exact Kd.V_nil _ _ _ _ _ | exact Kd.Q_nil _ _ _ _ _ | exact Kd.S_nil _ _ _ _ _, by repeat (first | (with_reducible first | exact HB.out | apply below_alloc | apply pw_below_drewN | apply below_drew1 | refine below_set ?_ GE140.out | refine below_set ?_ GE141.out | refine below_set ?_ GE142.out | refine below_set ?_ GE143.out) | exact HB.out)⟩
    ·replace c64 := Bool.eq_false_iff.mpr c64
     subst c64
     have H1 : (modbus_Step.j1 kj3 a0_0 a1_0 a1_1 a1_2 a1_3 a1_4 a1_5 a1_6 a1_7 a2_0 a2_1 a2_2 a2_3 a2_4 a2_5 a2_6) = some (r1, r2, r3, r4, r5, r6, r7, r8, r9) := by rw [if_neg (show ¬ (false = true) by decide)] at H; exact H
     clear H
     have H := H1
     clear H1
     have H' := Aside0.mk H
     clear H
     go_wp2
     go_meet
     case rel => exact ⟨_, (0), (0), (0), (0), (0), (0), (0), ((⟨#[]⟩ : ByteArray)), H', ⟨by have := HJ3.out; first | omega | exact Nat.le_refl _⟩, ⟨by (with_reducible repeat (first | refine blk_drewN ?_ _ | refine blk_drew ?_ | refine blk_alloc ?_ _)); exact BK140.out⟩, ⟨by (with_reducible repeat (first | refine blk_drewN ?_ _ | refine blk_drew ?_ | refine blk_alloc ?_ _)); exact BK141.out⟩, ⟨by (with_reducible repeat (first | refine blk_drewN ?_ _ | refine blk_drew ?_ | refine blk_alloc ?_ _)); exact BK142.out⟩, ⟨by (with_reducible repeat (first | refine blk_drewN ?_ _ | refine blk_drew ?_ | refine blk_alloc ?_ _)); exact BK143.out⟩, ⟨by repeat (first | (with_reducible first | exact HB.out | apply below_alloc | apply pw_below_drewN | apply below_drew1 | refine below_set ?_ GE140.out | refine below_set ?_ GE141.out | refine below_set ?_ GE142.out | refine below_set ?_ GE143.out) | exact HB.out)⟩⟩
   case rest =>
    clear HC63
    try clear c1
    try clear c2
    try clear p2
    try clear c3
    try clear c4
    try clear c5
    try clear c6
    try clear c7
    try clear c10
    try clear c10b0
    try clear c10b1
    try clear c11
    try clear c12
    try clear c13
    try clear c13b0
    try clear c13b1
    try clear c14
    try clear c14b0
    try clear c15
    try clear c16
    try clear c17
    try clear c20
    try clear c21
    try clear c25
    try clear c27
    try clear c28
    try clear c29
    try clear c32
    try clear c33
    try clear c37
    try clear c39
    try clear c40
    try clear c41
    try clear c44
    try clear c45
    try clear c49
    try clear c50
    try clear c51
    try clear c54
    try clear c55
    try clear c58
    try clear c59
    try clear c60
    try clear c64
    try clear c65
    try clear c66
    try clear c67
    try clear c69
    try clear c70
    try clear hcz18_0
    try clear hcz22_0
    try clear hcz22_1
    try clear hcz22_2
    try clear hcz22_3
    try clear hcz22_4
    try clear hcz22_5
    try clear hcz22_6
    try clear hcz24_0
    try clear hcz24_1
    try clear hcz24_2
    try clear hcz24_3
    try clear hcz24_4
    try clear hcz24_5
    try clear hcz24_6
    try clear hcz26_0
    try clear hcz26_1
    try clear hcz26_2
    try clear hcz26_3
    try clear hcz26_4
    try clear hcz26_5
    try clear hcz26_6
    try clear hcz26_7
    try clear hcz30_0
    try clear hcz34_0
    try clear hcz34_1
    try clear hcz34_2
    try clear hcz34_3
    try clear hcz34_4
    try clear hcz34_5
    try clear hcz34_6
    try clear hcz36_0
    try clear hcz36_1
    try clear hcz36_2
    try clear hcz36_3
    try clear hcz36_4
    try clear hcz36_5
    try clear hcz36_6
    try clear hcz38_0
    try clear hcz38_1
    try clear hcz38_2
    try clear hcz38_3
    try clear hcz38_4
    try clear hcz38_5
    try clear hcz38_6
    try clear hcz38_7
    try clear hcz42_0
    try clear hcz46_0
    try clear hcz46_1
    try clear hcz46_2
    try clear hcz46_3
    try clear hcz46_4
    try clear hcz46_5
    try clear hcz46_6
    try clear hcz48_0
    try clear hcz48_1
    try clear hcz48_2
    try clear hcz48_3
    try clear hcz48_4
    try clear hcz48_5
    try clear hcz48_6
    try clear hcz52_0
    try clear hcz56_0
    try clear hcz56_1
    try clear hcz56_2
    try clear hcz56_3
    try clear hcz56_4
    try clear hcz56_5
    try clear hcz56_6
    try clear hcz61_0
    try clear hcz68_0
    try clear hcz68_1
    try clear hcz68_2
    try clear hcz68_3
    try clear hcz68_4
    try clear hcz68_5
    try clear hcz68_6
    try clear hcz68_7
    try clear hcz71_0
    try clear hcz71_1
    try clear hcz71_2
    try clear hcz71_3
    try clear hcz71_4
    try clear hcz71_5
    try clear hcz71_6
    try clear hcz71_7
    try clear hfz18_0
    try clear hfz22_0
    try clear hfz22_1
    try clear hfz22_2
    try clear hfz22_3
    try clear hfz22_4
    try clear hfz22_5
    try clear hfz22_6
    try clear hfz24_0
    try clear hfz24_1
    try clear hfz24_2
    try clear hfz24_3
    try clear hfz24_4
    try clear hfz24_5
    try clear hfz24_6
    try clear hfz26_0
    try clear hfz26_1
    try clear hfz26_2
    try clear hfz26_3
    try clear hfz26_4
    try clear hfz26_5
    try clear hfz26_6
    try clear hfz26_7
    try clear hfz30_0
    try clear hfz34_0
    try clear hfz34_1
    try clear hfz34_2
    try clear hfz34_3
    try clear hfz34_4
    try clear hfz34_5
    try clear hfz34_6
    try clear hfz36_0
    try clear hfz36_1
    try clear hfz36_2
    try clear hfz36_3
    try clear hfz36_4
    try clear hfz36_5
    try clear hfz36_6
    try clear hfz38_0
    try clear hfz38_1
    try clear hfz38_2
    try clear hfz38_3
    try clear hfz38_4
    try clear hfz38_5
    try clear hfz38_6
    try clear hfz38_7
    try clear hfz42_0
    try clear hfz46_0
    try clear hfz46_1
    try clear hfz46_2
    try clear hfz46_3
    try clear hfz46_4
    try clear hfz46_5
    try clear hfz46_6
    try clear hfz48_0
    try clear hfz48_1
    try clear hfz48_2
    try clear hfz48_3
    try clear hfz48_4
    try clear hfz48_5
    try clear hfz48_6
    try clear hfz52_0
    try clear hfz56_0
    try clear hfz56_1
    try clear hfz56_2
    try clear hfz56_3
    try clear hfz56_4
    try clear hfz56_5
    try clear hfz56_6
    try clear hfz61_0
    try clear hfz68_0
    try clear hfz68_1
    try clear hfz68_2
    try clear hfz68_3
    try clear hfz68_4
    try clear hfz68_5
    try clear hfz68_6
    try clear hfz68_7
    try clear hfz71_0
    try clear hfz71_1
    try clear hfz71_2
    try clear hfz71_3
    try clear hfz71_4
    try clear hfz71_5
    try clear hfz71_6
    try clear hfz71_7
    try clear p2
    obtain ⟨kq, x144000_62, x144001_62, x144002_62, x144003_62, x144004_62, x144005_62, x144006_62, x144007_62, HA, HJ62, BK140, BK141, BK142, BK143, HB⟩ := hcut
    cases kq with
    | zero => exact absurd HA.out (by simp [modbus_Step.j1])
    | succ kj62 =>
     have H := HA.out
     clear HA
     simp only [modbus_Step.j1] at H
     by_cases c72 : a2_6 = 0
     ·rw [if_pos c72] at H
      have c72b0 : (a2_6 == 0) = true := beq_iff_eq.mpr c72
      have c72b1 : (a2_6 != 0) = false := bne_eq_false_iff_eq.mpr c72
      clear c72
      have HC73 := Aside0.mk H
      clear H
      have hnb74 := NB142_140.out
      have hnc74 := NB140_142.out
      have hnb75 := NB142_141.out
      have hnc75 := NB141_142.out
      have hnb76 := NB142_143.out
      have hnc76 := NB143_142.out
      have hcz77_0 : wc.cell? ⟨gb142, 0, none⟩ = some (.int .i64 a2_0) := (blk_cell BK142.out 0).trans rfl
      have hcz77_1 : wc.cell? ⟨gb142, 1, none⟩ = some (.int .i64 a2_1) := (blk_cell BK142.out 1).trans rfl
      have hcz77_2 : wc.cell? ⟨gb142, 2, none⟩ = some (.int .i64 a2_2) := (blk_cell BK142.out 2).trans rfl
      have hcz77_3 : wc.cell? ⟨gb142, 3, none⟩ = some (.int .i64 a2_3) := (blk_cell BK142.out 3).trans rfl
      have hcz77_4 : wc.cell? ⟨gb142, 4, none⟩ = some (.int .i64 a2_4) := (blk_cell BK142.out 4).trans rfl
      have hcz77_5 : wc.cell? ⟨gb142, 5, none⟩ = some (.string a2_5) := (blk_cell BK142.out 5).trans rfl
      have hcz77_6 : wc.cell? ⟨gb142, 6, none⟩ = some (.int .i64 a2_6) := (blk_cell BK142.out 6).trans rfl
      have hfz77_0 := blk_frozen BK142.out 0
      have hfz77_1 := blk_frozen BK142.out 1
      have hfz77_2 := blk_frozen BK142.out 2
      have hfz77_3 := blk_frozen BK142.out 3
      have hfz77_4 := blk_frozen BK142.out 4
      have hfz77_5 := blk_frozen BK142.out 5
      have hfz77_6 := blk_frozen BK142.out 6
      go_upto_region 8 with (fail)
      go_cut [69] (fun v69 wc => ∃ (kq : Nat) (x69_72 : Bool), v69 = .bool x69_72 ∧ Aside0 (modbus_Step.j2 kq ([] : List (S32)) x69_72 a1_0 a1_1 a1_2 a1_3 a1_4 a1_5 a1_6 a1_7 a2_0 a2_1 a2_2 a2_3 a2_4 a2_5 a2_6 = some (r1, r2, r3, r4, r5, r6, r7, r8, r9)) ∧ Aside0 (kq ≤ kj62) ∧ Aside0 (Kd.R k32 32 wc w.heap.size (fun k_ => k_ ≠ gb142) (.slice none 0 0) ([] : List (S32))) ∧ Aside0 (wc.heap[gb140]? = some (.cells #[.int .i64 a0_0] 23 (0, 0))) ∧ Aside0 (wc.heap[gb141]? = some (.cells #[.int .i64 a1_0, .int .i64 a1_1, .int .i64 a1_2, .int .i64 a1_3, .int .i64 a1_4, .int .i64 a1_5, .int .i64 a1_6, .string a1_7] 27 (0, 0))) ∧ Aside0 (wc.heap[gb142]? = some (.cells #[.int .i64 a2_0, .int .i64 a2_1, .int .i64 a2_2, .int .i64 a2_3, .int .i64 a2_4, .string a2_5, .int .i64 a2_6] 32 (0, 0))) ∧ Aside0 (wc.heap[gb143]? = some (.cells #[.int .i64 x144000_62, .int .i64 x144001_62, .int .i64 x144002_62, .int .i64 x144003_62, .int .i64 x144004_62, .int .i64 x144005_62, .int .i64 x144006_62, .string x144007_62] 27 (0, 0))) ∧ Aside0 (Below w.heap.size w wc))
      case first =>
       have H := HC73.out
       clear HC73
       by_cases c78 : a1_3 > 0
       ·rw [if_pos c78] at H
        have c78b0 : decide (0 < a1_3) = true := decide_eq_true c78
        clear c78
        (first | rw [c78b0] | (simp only [i64_w, i32_w]; rw [c78b0]) | skip)
        have H' := Aside0.mk H
        clear H
        have hnb79 := NB141_140.out
        have hnc79 := NB140_141.out
        have hnb80 := NB141_142.out
        have hnc80 := NB142_141.out
        have hnb81 := NB141_143.out
        have hnc81 := NB143_141.out
        have hcz82_0 : wc.cell? ⟨gb141, 0, none⟩ = some (.int .i64 a1_0) := (blk_cell BK141.out 0).trans rfl
        have hcz82_1 : wc.cell? ⟨gb141, 1, none⟩ = some (.int .i64 a1_1) := (blk_cell BK141.out 1).trans rfl
        have hcz82_2 : wc.cell? ⟨gb141, 2, none⟩ = some (.int .i64 a1_2) := (blk_cell BK141.out 2).trans rfl
        have hcz82_3 : wc.cell? ⟨gb141, 3, none⟩ = some (.int .i64 a1_3) := (blk_cell BK141.out 3).trans rfl
        have hcz82_4 : wc.cell? ⟨gb141, 4, none⟩ = some (.int .i64 a1_4) := (blk_cell BK141.out 4).trans rfl
        have hcz82_5 : wc.cell? ⟨gb141, 5, none⟩ = some (.int .i64 a1_5) := (blk_cell BK141.out 5).trans rfl
        have hcz82_6 : wc.cell? ⟨gb141, 6, none⟩ = some (.int .i64 a1_6) := (blk_cell BK141.out 6).trans rfl
        have hcz82_7 : wc.cell? ⟨gb141, 7, none⟩ = some (.string a1_7) := (blk_cell BK141.out 7).trans rfl
        have hfz82_0 := blk_frozen BK141.out 0
        have hfz82_1 := blk_frozen BK141.out 1
        have hfz82_2 := blk_frozen BK141.out 2
        have hfz82_3 := blk_frozen BK141.out 3
        have hfz82_4 := blk_frozen BK141.out 4
        have hfz82_5 := blk_frozen BK141.out 5
        have hfz82_6 := blk_frozen BK141.out 6
        have hfz82_7 := blk_frozen BK141.out 7
        have hnb83 := NB142_140.out
        have hnc83 := NB140_142.out
        have hnb84 := NB142_143.out
        have hnc84 := NB143_142.out
        have hcz85_0 : wc.cell? ⟨gb142, 0, none⟩ = some (.int .i64 a2_0) := (blk_cell BK142.out 0).trans rfl
        have hcz85_1 : wc.cell? ⟨gb142, 1, none⟩ = some (.int .i64 a2_1) := (blk_cell BK142.out 1).trans rfl
        have hcz85_2 : wc.cell? ⟨gb142, 2, none⟩ = some (.int .i64 a2_2) := (blk_cell BK142.out 2).trans rfl
        have hcz85_3 : wc.cell? ⟨gb142, 3, none⟩ = some (.int .i64 a2_3) := (blk_cell BK142.out 3).trans rfl
        have hcz85_4 : wc.cell? ⟨gb142, 4, none⟩ = some (.int .i64 a2_4) := (blk_cell BK142.out 4).trans rfl
        have hcz85_5 : wc.cell? ⟨gb142, 5, none⟩ = some (.string a2_5) := (blk_cell BK142.out 5).trans rfl
        have hcz85_6 : wc.cell? ⟨gb142, 6, none⟩ = some (.int .i64 a2_6) := (blk_cell BK142.out 6).trans rfl
        have hfz85_0 := blk_frozen BK142.out 0
        have hfz85_1 := blk_frozen BK142.out 1
        have hfz85_2 := blk_frozen BK142.out 2
        have hfz85_3 := blk_frozen BK142.out 3
        have hfz85_4 := blk_frozen BK142.out 4
        have hfz85_5 := blk_frozen BK142.out 5
        have hfz85_6 := blk_frozen BK142.out 6
        have hnb86 := NB140_143.out
        have hnc86 := NB143_140.out
        have hcz87_0 : wc.cell? ⟨gb140, 0, none⟩ = some (.int .i64 a0_0) := (blk_cell BK140.out 0).trans rfl
        have hfz87_0 := blk_frozen BK140.out 0
        go_wp2
        go_meet
        case rel => exact ⟨_, (decide ((wrap64 (a2_1 - a1_5)) > a0_0)), (by first | rfl | (simp; done) | (simp [*]; done)), H', ⟨by have := HJ3.out; have := HJ62.out; first | omega | exact Nat.le_refl _⟩, ⟨by first | exact Kd.R_nil _ _ _ _ _ | exact Kd.N_nil _ _ _ _ _ | exact Kd.V_nil _ _ _ _ _ | exact Kd.Q_nil _ _ _ _ _ | exact Kd.S_nil _ _ _ _ _⟩, ⟨by (with_reducible repeat (first | refine blk_drewN ?_ _ | refine blk_drew ?_ | refine blk_alloc ?_ _)); exact BK140.out⟩, ⟨by (with_reducible repeat (first | refine blk_drewN ?_ _ | refine blk_drew ?_ | refine blk_alloc ?_ _)); exact BK141.out⟩, ⟨by (with_reducible repeat (first | refine blk_drewN ?_ _ | refine blk_drew ?_ | refine blk_alloc ?_ _)); exact BK142.out⟩, ⟨by (with_reducible repeat (first | refine blk_drewN ?_ _ | refine blk_drew ?_ | refine blk_alloc ?_ _)); exact BK143.out⟩, ⟨by repeat (first | (with_reducible first | exact HB.out | apply below_alloc | apply pw_below_drewN | apply below_drew1 | refine below_set ?_ GE140.out | refine below_set ?_ GE141.out | refine below_set ?_ GE142.out | refine below_set ?_ GE143.out) | exact HB.out)⟩⟩
       ·rw [if_neg c78] at H
        have c78b0 : decide (0 < a1_3) = false := decide_eq_false c78
        clear c78
        (first | rw [c78b0] | (simp only [i64_w, i32_w]; rw [c78b0]) | skip)
        have H' := Aside0.mk H
        clear H
        have hnb88 := NB141_140.out
        have hnc88 := NB140_141.out
        have hnb89 := NB141_142.out
        have hnc89 := NB142_141.out
        have hnb90 := NB141_143.out
        have hnc90 := NB143_141.out
        have hcz91_0 : wc.cell? ⟨gb141, 0, none⟩ = some (.int .i64 a1_0) := (blk_cell BK141.out 0).trans rfl
        have hcz91_1 : wc.cell? ⟨gb141, 1, none⟩ = some (.int .i64 a1_1) := (blk_cell BK141.out 1).trans rfl
        have hcz91_2 : wc.cell? ⟨gb141, 2, none⟩ = some (.int .i64 a1_2) := (blk_cell BK141.out 2).trans rfl
        have hcz91_3 : wc.cell? ⟨gb141, 3, none⟩ = some (.int .i64 a1_3) := (blk_cell BK141.out 3).trans rfl
        have hcz91_4 : wc.cell? ⟨gb141, 4, none⟩ = some (.int .i64 a1_4) := (blk_cell BK141.out 4).trans rfl
        have hcz91_5 : wc.cell? ⟨gb141, 5, none⟩ = some (.int .i64 a1_5) := (blk_cell BK141.out 5).trans rfl
        have hcz91_6 : wc.cell? ⟨gb141, 6, none⟩ = some (.int .i64 a1_6) := (blk_cell BK141.out 6).trans rfl
        have hcz91_7 : wc.cell? ⟨gb141, 7, none⟩ = some (.string a1_7) := (blk_cell BK141.out 7).trans rfl
        have hfz91_0 := blk_frozen BK141.out 0
        have hfz91_1 := blk_frozen BK141.out 1
        have hfz91_2 := blk_frozen BK141.out 2
        have hfz91_3 := blk_frozen BK141.out 3
        have hfz91_4 := blk_frozen BK141.out 4
        have hfz91_5 := blk_frozen BK141.out 5
        have hfz91_6 := blk_frozen BK141.out 6
        have hfz91_7 := blk_frozen BK141.out 7
        go_wp2
        go_meet
        case rel => exact ⟨_, (false), (by first | rfl | (simp; done) | (simp [*]; done)), H', ⟨by have := HJ3.out; have := HJ62.out; first | omega | exact Nat.le_refl _⟩, ⟨by first | exact Kd.R_nil _ _ _ _ _ | exact Kd.N_nil _ _ _ _ _ | exact Kd.V_nil _ _ _ _ _ | exact Kd.Q_nil _ _ _ _ _ | exact Kd.S_nil _ _ _ _ _⟩, ⟨by (with_reducible repeat (first | refine blk_drewN ?_ _ | refine blk_drew ?_ | refine blk_alloc ?_ _)); exact BK140.out⟩, ⟨by (with_reducible repeat (first | refine blk_drewN ?_ _ | refine blk_drew ?_ | refine blk_alloc ?_ _)); exact BK141.out⟩, ⟨by (with_reducible repeat (first | refine blk_drewN ?_ _ | refine blk_drew ?_ | refine blk_alloc ?_ _)); exact BK142.out⟩, ⟨by (with_reducible repeat (first | refine blk_drewN ?_ _ | refine blk_drew ?_ | refine blk_alloc ?_ _)); exact BK143.out⟩, ⟨by repeat (first | (with_reducible first | exact HB.out | apply below_alloc | apply pw_below_drewN | apply below_drew1 | refine below_set ?_ GE140.out | refine below_set ?_ GE141.out | refine below_set ?_ GE142.out | refine below_set ?_ GE143.out) | exact HB.out)⟩⟩
      case rest =>
       clear HC73
       try clear c1
       try clear c2
       try clear p2
       try clear c3
       try clear c4
       try clear c5
       try clear c6
       try clear p6
       try clear c7
       try clear c8
       try clear c9
       try clear c10
       try clear c10b0
       try clear c10b1
       try clear c11
       try clear c12
       try clear c13
       try clear c13b0
       try clear c13b1
       try clear c14
       try clear c14b0
       try clear c15
       try clear c16
       try clear c17
       try clear c20
       try clear c21
       try clear c25
       try clear c27
       try clear c28
       try clear c29
       try clear c32
       try clear c33
       try clear c37
       try clear c39
       try clear c40
       try clear c41
       try clear c44
       try clear c45
       try clear c49
       try clear c50
       try clear c51
       try clear c54
       try clear c55
       try clear c58
       try clear c59
       try clear c60
       try clear c64
       try clear p64
       try clear c65
       try clear c66
       try clear c67
       try clear c69
       try clear c70
       try clear c72
       try clear c72b0
       try clear c72b1
       try clear c74
       try clear c75
       try clear c76
       try clear c78
       try clear c78b0
       try clear c79
       try clear c80
       try clear c81
       try clear c83
       try clear c84
       try clear c86
       try clear c88
       try clear c89
       try clear c90
       try clear hcz18_0
       try clear hcz22_0
       try clear hcz22_1
       try clear hcz22_2
       try clear hcz22_3
       try clear hcz22_4
       try clear hcz22_5
       try clear hcz22_6
       try clear hcz24_0
       try clear hcz24_1
       try clear hcz24_2
       try clear hcz24_3
       try clear hcz24_4
       try clear hcz24_5
       try clear hcz24_6
       try clear hcz26_0
       try clear hcz26_1
       try clear hcz26_2
       try clear hcz26_3
       try clear hcz26_4
       try clear hcz26_5
       try clear hcz26_6
       try clear hcz26_7
       try clear hcz30_0
       try clear hcz34_0
       try clear hcz34_1
       try clear hcz34_2
       try clear hcz34_3
       try clear hcz34_4
       try clear hcz34_5
       try clear hcz34_6
       try clear hcz36_0
       try clear hcz36_1
       try clear hcz36_2
       try clear hcz36_3
       try clear hcz36_4
       try clear hcz36_5
       try clear hcz36_6
       try clear hcz38_0
       try clear hcz38_1
       try clear hcz38_2
       try clear hcz38_3
       try clear hcz38_4
       try clear hcz38_5
       try clear hcz38_6
       try clear hcz38_7
       try clear hcz42_0
       try clear hcz46_0
       try clear hcz46_1
       try clear hcz46_2
       try clear hcz46_3
       try clear hcz46_4
       try clear hcz46_5
       try clear hcz46_6
       try clear hcz48_0
       try clear hcz48_1
       try clear hcz48_2
       try clear hcz48_3
       try clear hcz48_4
       try clear hcz48_5
       try clear hcz48_6
       try clear hcz52_0
       try clear hcz56_0
       try clear hcz56_1
       try clear hcz56_2
       try clear hcz56_3
       try clear hcz56_4
       try clear hcz56_5
       try clear hcz56_6
       try clear hcz61_0
       try clear hcz68_0
       try clear hcz68_1
       try clear hcz68_2
       try clear hcz68_3
       try clear hcz68_4
       try clear hcz68_5
       try clear hcz68_6
       try clear hcz68_7
       try clear hcz71_0
       try clear hcz71_1
       try clear hcz71_2
       try clear hcz71_3
       try clear hcz71_4
       try clear hcz71_5
       try clear hcz71_6
       try clear hcz71_7
       try clear hcz77_0
       try clear hcz77_1
       try clear hcz77_2
       try clear hcz77_3
       try clear hcz77_4
       try clear hcz77_5
       try clear hcz77_6
       try clear hcz82_0
       try clear hcz82_1
       try clear hcz82_2
       try clear hcz82_3
       try clear hcz82_4
       try clear hcz82_5
       try clear hcz82_6
       try clear hcz82_7
       try clear hcz85_0
       try clear hcz85_1
       try clear hcz85_2
       try clear hcz85_3
       try clear hcz85_4
       try clear hcz85_5
       try clear hcz85_6
       try clear hcz87_0
       try clear hcz91_0
       try clear hcz91_1
       try clear hcz91_2
       try clear hcz91_3
       try clear hcz91_4
       try clear hcz91_5
       try clear hcz91_6
       try clear hcz91_7
       try clear hfz18_0
       try clear hfz22_0
       try clear hfz22_1
       try clear hfz22_2
       try clear hfz22_3
       try clear hfz22_4
       try clear hfz22_5
       try clear hfz22_6
       try clear hfz24_0
       try clear hfz24_1
       try clear hfz24_2
       try clear hfz24_3
       try clear hfz24_4
       try clear hfz24_5
       try clear hfz24_6
       try clear hfz26_0
       try clear hfz26_1
       try clear hfz26_2
       try clear hfz26_3
       try clear hfz26_4
       try clear hfz26_5
       try clear hfz26_6
       try clear hfz26_7
       try clear hfz30_0
       try clear hfz34_0
       try clear hfz34_1
       try clear hfz34_2
       try clear hfz34_3
       try clear hfz34_4
       try clear hfz34_5
       try clear hfz34_6
       try clear hfz36_0
       try clear hfz36_1
       try clear hfz36_2
       try clear hfz36_3
       try clear hfz36_4
       try clear hfz36_5
       try clear hfz36_6
       try clear hfz38_0
       try clear hfz38_1
       try clear hfz38_2
       try clear hfz38_3
       try clear hfz38_4
       try clear hfz38_5
       try clear hfz38_6
       try clear hfz38_7
       try clear hfz42_0
       try clear hfz46_0
       try clear hfz46_1
       try clear hfz46_2
       try clear hfz46_3
       try clear hfz46_4
       try clear hfz46_5
       try clear hfz46_6
       try clear hfz48_0
       try clear hfz48_1
       try clear hfz48_2
       try clear hfz48_3
       try clear hfz48_4
       try clear hfz48_5
       try clear hfz48_6
       try clear hfz52_0
       try clear hfz56_0
       try clear hfz56_1
       try clear hfz56_2
       try clear hfz56_3
       try clear hfz56_4
       try clear hfz56_5
       try clear hfz56_6
       try clear hfz61_0
       try clear hfz68_0
       try clear hfz68_1
       try clear hfz68_2
       try clear hfz68_3
       try clear hfz68_4
       try clear hfz68_5
       try clear hfz68_6
       try clear hfz68_7
       try clear hfz71_0
       try clear hfz71_1
       try clear hfz71_2
       try clear hfz71_3
       try clear hfz71_4
       try clear hfz71_5
       try clear hfz71_6
       try clear hfz71_7
       try clear hfz77_0
       try clear hfz77_1
       try clear hfz77_2
       try clear hfz77_3
       try clear hfz77_4
       try clear hfz77_5
       try clear hfz77_6
       try clear hfz82_0
       try clear hfz82_1
       try clear hfz82_2
       try clear hfz82_3
       try clear hfz82_4
       try clear hfz82_5
       try clear hfz82_6
       try clear hfz82_7
       try clear hfz85_0
       try clear hfz85_1
       try clear hfz85_2
       try clear hfz85_3
       try clear hfz85_4
       try clear hfz85_5
       try clear hfz85_6
       try clear hfz87_0
       try clear hfz91_0
       try clear hfz91_1
       try clear hfz91_2
       try clear hfz91_3
       try clear hfz91_4
       try clear hfz91_5
       try clear hfz91_6
       try clear hfz91_7
       try clear p2
       obtain ⟨kq, x69_72, rfl, HA, HJ72, HO_8, BK140, BK141, BK142, BK143, HB⟩ := hcut
       cases kq with
       | zero => exact absurd HA.out (by simp [modbus_Step.j2])
       | succ kj72 =>
        have H := HA.out
        clear HA
        simp only [modbus_Step.j2] at H
        have HC92 := Aside0.mk H
        clear H
        go_upto_if 69 with (fail)
        go_cut [8] (fun v8 wc => ∃ (kq : Nat) (x8_91 : List (S32)) (x142000_91 : Int) (x142001_91 : Int) (x142002_91 : Int) (x142003_91 : Int) (x142004_91 : Int) (x142005_91 : Int) (x142006_91 : Int) (x142007_91 : ByteArray), Aside0 (modbus_Step.j3 kq x8_91 x142000_91 x142001_91 x142002_91 x142003_91 x142004_91 x142005_91 x142006_91 x142007_91 a2_0 a2_1 a2_2 a2_3 a2_4 a2_5 a2_6 = some (r1, r2, r3, r4, r5, r6, r7, r8, r9)) ∧ Aside0 (kq ≤ kj72) ∧ Aside0 (Kd.R k32 32 wc w.heap.size (fun k_ => k_ ≠ gb142) v8 x8_91) ∧ Aside0 (wc.heap[gb140]? = some (.cells #[.int .i64 a0_0] 23 (0, 0))) ∧ Aside0 (wc.heap[gb141]? = some (.cells #[.int .i64 x142000_91, .int .i64 x142001_91, .int .i64 x142002_91, .int .i64 x142003_91, .int .i64 x142004_91, .int .i64 x142005_91, .int .i64 x142006_91, .string x142007_91] 27 (0, 0))) ∧ Aside0 (wc.heap[gb142]? = some (.cells #[.int .i64 a2_0, .int .i64 a2_1, .int .i64 a2_2, .int .i64 a2_3, .int .i64 a2_4, .string a2_5, .int .i64 a2_6] 32 (0, 0))) ∧ Aside0 (wc.heap[gb143]? = some (.cells #[.int .i64 x144000_62, .int .i64 x144001_62, .int .i64 x144002_62, .int .i64 x144003_62, .int .i64 x144004_62, .int .i64 x144005_62, .int .i64 x144006_62, .string x144007_62] 27 (0, 0))) ∧ Aside0 (Below w.heap.size w wc))
        case first =>
         have H := HC92.out
         clear HC92
         by_cases c93 : x69_72 = true
         ·subst c93
          have H1 : ((modbus_finish.f kj72 a1_0 a1_1 a1_2 a1_3 a1_4 a1_5 a1_6 a1_7).bind fun t149 => (modbus_Step.j3 kj72 t149 0 0 0 0 0 0 0 (⟨#[]⟩ : ByteArray) a2_0 a2_1 a2_2 a2_3 a2_4 a2_5 a2_6)) = some (r1, r2, r3, r4, r5, r6, r7, r8, r9) := by rw [if_pos rfl] at H; exact H
          clear H
          have H := H1
          clear H1
          replace H := Option.bind_eq_some_iff.mp H
          obtain ⟨t149, A940, H⟩ := H
          replace H : (modbus_Step.j3 kj72 t149 0 0 0 0 0 0 0 (⟨#[]⟩ : ByteArray) a2_0 a2_1 a2_2 a2_3 a2_4 a2_5 a2_6) = some (r1, r2, r3, r4, r5, r6, r7, r8, r9) := H
          have A94 := Aside0.mk A940
          clear A940
          have H' := Aside0.mk H
          clear H
          have hnb95 := NB141_140.out
          have hnc95 := NB140_141.out
          have hnb96 := NB141_142.out
          have hnc96 := NB142_141.out
          have hnb97 := NB141_143.out
          have hnc97 := NB143_141.out
          have hcz98_0 : wc.cell? ⟨gb141, 0, none⟩ = some (.int .i64 a1_0) := (blk_cell BK141.out 0).trans rfl
          have hcz98_1 : wc.cell? ⟨gb141, 1, none⟩ = some (.int .i64 a1_1) := (blk_cell BK141.out 1).trans rfl
          have hcz98_2 : wc.cell? ⟨gb141, 2, none⟩ = some (.int .i64 a1_2) := (blk_cell BK141.out 2).trans rfl
          have hcz98_3 : wc.cell? ⟨gb141, 3, none⟩ = some (.int .i64 a1_3) := (blk_cell BK141.out 3).trans rfl
          have hcz98_4 : wc.cell? ⟨gb141, 4, none⟩ = some (.int .i64 a1_4) := (blk_cell BK141.out 4).trans rfl
          have hcz98_5 : wc.cell? ⟨gb141, 5, none⟩ = some (.int .i64 a1_5) := (blk_cell BK141.out 5).trans rfl
          have hcz98_6 : wc.cell? ⟨gb141, 6, none⟩ = some (.int .i64 a1_6) := (blk_cell BK141.out 6).trans rfl
          have hcz98_7 : wc.cell? ⟨gb141, 7, none⟩ = some (.string a1_7) := (blk_cell BK141.out 7).trans rfl
          have hfz98_0 := blk_frozen BK141.out 0
          have hfz98_1 := blk_frozen BK141.out 1
          have hfz98_2 := blk_frozen BK141.out 2
          have hfz98_3 := blk_frozen BK141.out 3
          have hfz98_4 := blk_frozen BK141.out 4
          have hfz98_5 := blk_frozen BK141.out 5
          have hfz98_6 := blk_frozen BK141.out 6
          have hfz98_7 := blk_frozen BK141.out 7
          go_wp2_with (first | ((with_reducible refine gate_callee (f := 27) rfl ?_); refine goesL_ (some 71) rfl rfl Tryd.func27 (by kernel_rfl) rfl #[.agg #[.int .i64 a1_0, .int .i64 a1_1, .int .i64 a1_2, .int .i64 a1_3, .int .i64 a1_4, .int .i64 a1_5, .int .i64 a1_6, .string a1_7]] rfl (by (try simp only [List.map_toArray, List.map_cons, List.map_nil]); first | done | rfl | (simp only [List.length_drop, List.length_take]; rfl)) ?_; (with_reducible refine (modbus_finish.calls kj72 a1_0 a1_1 a1_2 a1_3 a1_4 a1_5 a1_6 a1_7 t149 _ ?side1 A94.out).mono ?_); (case side1 => refine TabOk.below hT_ ?_; repeat (first | (with_reducible first | exact HB.out | apply below_alloc | apply pw_below_drewN | apply below_drew1 | refine below_set ?_ GE140.out | refine below_set ?_ GE141.out | refine below_set ?_ GE142.out | refine below_set ?_ GE143.out) | exact HB.out)); rintro e w99 ⟨v150, rfl, ho0, hb⟩; refine ⟨_, rfl, ?_⟩; have n0_ := Aside0.mk (Kd.R_elder' (rkw HO_8.out) (Kd.R_base ho0) hb); have n1_ := Aside0.mk (Kd.R_lower (Kd.R_newB (Kd.R_new' ho0 (Kd.R_lt (rkw HO_8.out))) (g := gb142) (o := .cells #[.int .i64 a2_0, .int .i64 a2_1, .int .i64 a2_2, .int .i64 a2_3, .int .i64 a2_4, .string a2_5, .int .i64 a2_6] 32 (0, 0)) (bkw BK142.out)) (below_size (hbw HB.out))); have n2_ := Aside0.mk (blkb BK140.out hb); have n3_ := Aside0.mk (blkb BK141.out hb); have n4_ := Aside0.mk (blkb BK142.out hb); have n5_ := Aside0.mk (blkb BK143.out hb); have n6_ := Aside0.mk (below_step (hbw HB.out) hb); clear HO_8; clear BK140; clear BK141; clear BK142; clear BK143; clear HB; have HO_8 := n0_; have HO151 := n1_; have BK140 := n2_; have BK141 := n3_; have BK142 := n4_; have BK143 := n5_; have HB := n6_; clear n0_ n1_ n2_ n3_ n4_ n5_ n6_; (try clear hb); (try clear hb2); (try clear hk); (try clear hi); (try clear ho0); have hcz100_0 : w99.cell? ⟨gb141, 0, none⟩ = some (.int .i64 a1_0) := (blk_cell BK141.out 0).trans rfl; have hcz100_1 : w99.cell? ⟨gb141, 1, none⟩ = some (.int .i64 a1_1) := (blk_cell BK141.out 1).trans rfl; have hcz100_2 : w99.cell? ⟨gb141, 2, none⟩ = some (.int .i64 a1_2) := (blk_cell BK141.out 2).trans rfl; have hcz100_3 : w99.cell? ⟨gb141, 3, none⟩ = some (.int .i64 a1_3) := (blk_cell BK141.out 3).trans rfl; have hcz100_4 : w99.cell? ⟨gb141, 4, none⟩ = some (.int .i64 a1_4) := (blk_cell BK141.out 4).trans rfl; have hcz100_5 : w99.cell? ⟨gb141, 5, none⟩ = some (.int .i64 a1_5) := (blk_cell BK141.out 5).trans rfl; have hcz100_6 : w99.cell? ⟨gb141, 6, none⟩ = some (.int .i64 a1_6) := (blk_cell BK141.out 6).trans rfl; have hcz100_7 : w99.cell? ⟨gb141, 7, none⟩ = some (.string a1_7) := (blk_cell BK141.out 7).trans rfl; have hfz100_0 := blk_frozen BK141.out 0; have hfz100_1 := blk_frozen BK141.out 1; have hfz100_2 := blk_frozen BK141.out 2; have hfz100_3 := blk_frozen BK141.out 3; have hfz100_4 := blk_frozen BK141.out 4; have hfz100_5 := blk_frozen BK141.out 5; have hfz100_6 := blk_frozen BK141.out 6; have hfz100_7 := blk_frozen BK141.out 7))
          go_meet
          case rel => exact ⟨_, (t149), (0), (0), (0), (0), (0), (0), (0), ((⟨#[]⟩ : ByteArray)), H', ⟨by have := HJ3.out; have := HJ62.out; have := HJ72.out; first | omega | exact Nat.le_refl _⟩, ⟨by (with_reducible repeat (first | apply Kd.R_alloc | apply Kd.R_drewN | apply Kd.R_drew)); exact Kd.R_mono (Kd.R_far (p := ⟨gb141, 7, none⟩) (Kd.R_far (p := ⟨gb141, 6, none⟩) (Kd.R_far (p := ⟨gb141, 5, none⟩) (Kd.R_far (p := ⟨gb141, 4, none⟩) (Kd.R_far (p := ⟨gb141, 3, none⟩) (Kd.R_far (p := ⟨gb141, 2, none⟩) (Kd.R_far (p := ⟨gb141, 1, none⟩) (Kd.R_far (p := ⟨gb141, 0, none⟩) (Kd.R_types HO151.out BK141.out (by decide)) (fun _ hk => hk.2) (.int .i64 0)) (fun _ hk => hk.2) (.int .i64 0)) (fun _ hk => hk.2) (.int .i64 0)) (fun _ hk => hk.2) (.int .i64 0)) (fun _ hk => hk.2) (.int .i64 0)) (fun _ hk => hk.2) (.int .i64 0)) (fun _ hk => hk.2) (.int .i64 0)) (fun _ hk => hk.2) (.string (⟨#[]⟩ : ByteArray))) (fun _ hk => hk.1.2)⟩, ⟨by (with_reducible repeat (first | refine blk_drewN ?_ _ | refine blk_drew ?_ | refine blk_alloc ?_ _)); refine blk_far ?_ NB140_141.out _; (with_reducible repeat (first | refine blk_drewN ?_ _ | refine blk_drew ?_ | refine blk_alloc ?_ _)); refine blk_far ?_ NB140_141.out _; (with_reducible repeat (first | refine blk_drewN ?_ _ | refine blk_drew ?_ | refine blk_alloc ?_ _)); refine blk_far ?_ NB140_141.out _; (with_reducible repeat (first | refine blk_drewN ?_ _ | refine blk_drew ?_ | refine blk_alloc ?_ _)); refine blk_far ?_ NB140_141.out _; (with_reducible repeat (first | refine blk_drewN ?_ _ | refine blk_drew ?_ | refine blk_alloc ?_ _)); refine blk_far ?_ NB140_141.out _; (with_reducible repeat (first | refine blk_drewN ?_ _ | refine blk_drew ?_ | refine blk_alloc ?_ _)); refine blk_far ?_ NB140_141.out _; (with_reducible repeat (first | refine blk_drewN ?_ _ | refine blk_drew ?_ | refine blk_alloc ?_ _)); refine blk_far ?_ NB140_141.out _; (with_reducible repeat (first | refine blk_drewN ?_ _ | refine blk_drew ?_ | refine blk_alloc ?_ _)); refine blk_far ?_ NB140_141.out _; (with_reducible repeat (first | refine blk_drewN ?_ _ | refine blk_drew ?_ | refine blk_alloc ?_ _)); exact BK140.out⟩, ⟨by (with_reducible repeat (first | refine blk_drewN ?_ _ | refine blk_drew ?_ | refine blk_alloc ?_ _)); refine blk_put (cs := #[.int .i64 0, .int .i64 0, .int .i64 0, .int .i64 0, .int .i64 0, .int .i64 0, .int .i64 0, .string a1_7]) ?_ 7 _ rfl; (with_reducible repeat (first | refine blk_drewN ?_ _ | refine blk_drew ?_ | refine blk_alloc ?_ _)); refine blk_put (cs := #[.int .i64 0, .int .i64 0, .int .i64 0, .int .i64 0, .int .i64 0, .int .i64 0, .int .i64 a1_6, .string a1_7]) ?_ 6 _ rfl; (with_reducible repeat (first | refine blk_drewN ?_ _ | refine blk_drew ?_ | refine blk_alloc ?_ _)); refine blk_put (cs := #[.int .i64 0, .int .i64 0, .int .i64 0, .int .i64 0, .int .i64 0, .int .i64 a1_5, .int .i64 a1_6, .string a1_7]) ?_ 5 _ rfl; (with_reducible repeat (first | refine blk_drewN ?_ _ | refine blk_drew ?_ | refine blk_alloc ?_ _)); refine blk_put (cs := #[.int .i64 0, .int .i64 0, .int .i64 0, .int .i64 0, .int .i64 a1_4, .int .i64 a1_5, .int .i64 a1_6, .string a1_7]) ?_ 4 _ rfl; (with_reducible repeat (first | refine blk_drewN ?_ _ | refine blk_drew ?_ | refine blk_alloc ?_ _)); refine blk_put (cs := #[.int .i64 0, .int .i64 0, .int .i64 0, .int .i64 a1_3, .int .i64 a1_4, .int .i64 a1_5, .int .i64 a1_6, .string a1_7]) ?_ 3 _ rfl; (with_reducible repeat (first | refine blk_drewN ?_ _ | refine blk_drew ?_ | refine blk_alloc ?_ _)); refine blk_put (cs := #[.int .i64 0, .int .i64 0, .int .i64 a1_2, .int .i64 a1_3, .int .i64 a1_4, .int .i64 a1_5, .int .i64 a1_6, .string a1_7]) ?_ 2 _ rfl; (with_reducible repeat (first | refine blk_drewN ?_ _ | refine blk_drew ?_ | refine blk_alloc ?_ _)); refine blk_put (cs := #[.int .i64 0, .int .i64 a1_1, .int .i64 a1_2, .int .i64 a1_3, .int .i64 a1_4, .int .i64 a1_5, .int .i64 a1_6, .string a1_7]) ?_ 1 _ rfl; (with_reducible repeat (first | refine blk_drewN ?_ _ | refine blk_drew ?_ | refine blk_alloc ?_ _)); refine blk_put (cs := #[.int .i64 a1_0, .int .i64 a1_1, .int .i64 a1_2, .int .i64 a1_3, .int .i64 a1_4, .int .i64 a1_5, .int .i64 a1_6, .string a1_7]) ?_ 0 _ rfl; (with_reducible repeat (first | refine blk_drewN ?_ _ | refine blk_drew ?_ | refine blk_alloc ?_ _)); exact BK141.out⟩, ⟨by (with_reducible repeat (first | refine blk_drewN ?_ _ | refine blk_drew ?_ | refine blk_alloc ?_ _)); refine blk_far ?_ NB142_141.out _; (with_reducible repeat (first | refine blk_drewN ?_ _ | refine blk_drew ?_ | refine blk_alloc ?_ _)); refine blk_far ?_ NB142_141.out _; (with_reducible repeat (first | refine blk_drewN ?_ _ | refine blk_drew ?_ | refine blk_alloc ?_ _)); refine blk_far ?_ NB142_141.out _; (with_reducible repeat (first | refine blk_drewN ?_ _ | refine blk_drew ?_ | refine blk_alloc ?_ _)); refine blk_far ?_ NB142_141.out _; (with_reducible repeat (first | refine blk_drewN ?_ _ | refine blk_drew ?_ | refine blk_alloc ?_ _)); refine blk_far ?_ NB142_141.out _; (with_reducible repeat (first | refine blk_drewN ?_ _ | refine blk_drew ?_ | refine blk_alloc ?_ _)); refine blk_far ?_ NB142_141.out _; (with_reducible repeat (first | refine blk_drewN ?_ _ | refine blk_drew ?_ | refine blk_alloc ?_ _)); refine blk_far ?_ NB142_141.out _; (with_reducible repeat (first | refine blk_drewN ?_ _ | refine blk_drew ?_ | refine blk_alloc ?_ _)); refine blk_far ?_ NB142_141.out _; (with_reducible repeat (first | refine blk_drewN ?_ _ | refine blk_drew ?_ | refine blk_alloc ?_ _)); exact BK142.out⟩, ⟨by (with_reducible repeat (first | refine blk_drewN ?_ _ | refine blk_drew ?_ | refine blk_alloc ?_ _)); refine blk_far ?_ NB143_141.out _; (with_reducible repeat (first | refine blk_drewN ?_ _ | refine blk_drew ?_ | refine blk_alloc ?_ _)); refine blk_far ?_ NB143_141.out _; (with_reducible repeat (first | refine blk_drewN ?_ _ | refine blk_drew ?_ | refine blk_alloc ?_ _)); refine blk_far ?_ NB143_141.out _; (with_reducible repeat (first | refine blk_drewN ?_ _ | refine blk_drew ?_ | refine blk_alloc ?_ _)); refine blk_far ?_ NB143_141.out _; (with_reducible repeat (first | refine blk_drewN ?_ _ | refine blk_drew ?_ | refine blk_alloc ?_ _)); refine blk_far ?_ NB143_141.out _; (with_reducible repeat (first | refine blk_drewN ?_ _ | refine blk_drew ?_ | refine blk_alloc ?_ _)); refine blk_far ?_ NB143_141.out _; (with_reducible repeat (first | refine blk_drewN ?_ _ | refine blk_drew ?_ | refine blk_alloc ?_ _)); refine blk_far ?_ NB143_141.out _; (with_reducible repeat (first | refine blk_drewN ?_ _ | refine blk_drew ?_ | refine blk_alloc ?_ _)); refine blk_far ?_ NB143_141.out _; (with_reducible repeat (first | refine blk_drewN ?_ _ | refine blk_drew ?_ | refine blk_alloc ?_ _)); exact BK143.out⟩, ⟨by repeat (first | (with_reducible first | exact HB.out | apply below_alloc | apply pw_below_drewN | apply below_drew1 | refine below_set ?_ GE140.out | refine below_set ?_ GE141.out | refine below_set ?_ GE142.out | refine below_set ?_ GE143.out) | exact HB.out)⟩⟩
         ·replace c93 := Bool.eq_false_iff.mpr c93
          subst c93
          have H1 : (modbus_Step.j3 kj72 ([] : List (S32)) a1_0 a1_1 a1_2 a1_3 a1_4 a1_5 a1_6 a1_7 a2_0 a2_1 a2_2 a2_3 a2_4 a2_5 a2_6) = some (r1, r2, r3, r4, r5, r6, r7, r8, r9) := by rw [if_neg (show ¬ (false = true) by decide)] at H; exact H
          clear H
          have H := H1
          clear H1
          have H' := Aside0.mk H
          clear H
          go_wp2
          go_meet
          case rel => exact ⟨_, (([] : List (S32))), (a1_0), (a1_1), (a1_2), (a1_3), (a1_4), (a1_5), (a1_6), (a1_7), H', ⟨by have := HJ3.out; have := HJ62.out; have := HJ72.out; first | omega | exact Nat.le_refl _⟩, ⟨by (with_reducible repeat (first | apply Kd.R_alloc | apply Kd.R_drewN | apply Kd.R_drew)); exact HO_8.out⟩, ⟨by (with_reducible repeat (first | refine blk_drewN ?_ _ | refine blk_drew ?_ | refine blk_alloc ?_ _)); exact BK140.out⟩, ⟨by (with_reducible repeat (first | refine blk_drewN ?_ _ | refine blk_drew ?_ | refine blk_alloc ?_ _)); exact BK141.out⟩, ⟨by (with_reducible repeat (first | refine blk_drewN ?_ _ | refine blk_drew ?_ | refine blk_alloc ?_ _)); exact BK142.out⟩, ⟨by (with_reducible repeat (first | refine blk_drewN ?_ _ | refine blk_drew ?_ | refine blk_alloc ?_ _)); exact BK143.out⟩, ⟨by repeat (first | (with_reducible first | exact HB.out | apply below_alloc | apply pw_below_drewN | apply below_drew1 | refine below_set ?_ GE140.out | refine below_set ?_ GE141.out | refine below_set ?_ GE142.out | refine below_set ?_ GE143.out) | exact HB.out)⟩⟩
        case rest =>
         clear HC92
         try clear c1
         try clear c2
         try clear p2
         try clear c3
         try clear c4
         try clear c5
         try clear c6
         try clear p6
         try clear c7
         try clear c8
         try clear c9
         try clear c10
         try clear c10b0
         try clear c10b1
         try clear c11
         try clear c12
         try clear c13
         try clear c13b0
         try clear c13b1
         try clear c14
         try clear c14b0
         try clear c15
         try clear c16
         try clear c17
         try clear c20
         try clear c21
         try clear c25
         try clear c27
         try clear c28
         try clear c29
         try clear c32
         try clear c33
         try clear c37
         try clear c39
         try clear c40
         try clear c41
         try clear c44
         try clear c45
         try clear c49
         try clear c50
         try clear c51
         try clear c54
         try clear c55
         try clear c58
         try clear c59
         try clear c60
         try clear c64
         try clear p64
         try clear c65
         try clear c66
         try clear c67
         try clear c69
         try clear c70
         try clear c72
         try clear c72b0
         try clear c72b1
         try clear c74
         try clear c75
         try clear c76
         try clear c78
         try clear c78b0
         try clear c79
         try clear c80
         try clear c81
         try clear c83
         try clear c84
         try clear c86
         try clear c88
         try clear c89
         try clear c90
         try clear c93
         try clear c95
         try clear c96
         try clear c97
         try clear hcz100_0
         try clear hcz100_1
         try clear hcz100_2
         try clear hcz100_3
         try clear hcz100_4
         try clear hcz100_5
         try clear hcz100_6
         try clear hcz100_7
         try clear hcz18_0
         try clear hcz22_0
         try clear hcz22_1
         try clear hcz22_2
         try clear hcz22_3
         try clear hcz22_4
         try clear hcz22_5
         try clear hcz22_6
         try clear hcz24_0
         try clear hcz24_1
         try clear hcz24_2
         try clear hcz24_3
         try clear hcz24_4
         try clear hcz24_5
         try clear hcz24_6
         try clear hcz26_0
         try clear hcz26_1
         try clear hcz26_2
         try clear hcz26_3
         try clear hcz26_4
         try clear hcz26_5
         try clear hcz26_6
         try clear hcz26_7
         try clear hcz30_0
         try clear hcz34_0
         try clear hcz34_1
         try clear hcz34_2
         try clear hcz34_3
         try clear hcz34_4
         try clear hcz34_5
         try clear hcz34_6
         try clear hcz36_0
         try clear hcz36_1
         try clear hcz36_2
         try clear hcz36_3
         try clear hcz36_4
         try clear hcz36_5
         try clear hcz36_6
         try clear hcz38_0
         try clear hcz38_1
         try clear hcz38_2
         try clear hcz38_3
         try clear hcz38_4
         try clear hcz38_5
         try clear hcz38_6
         try clear hcz38_7
         try clear hcz42_0
         try clear hcz46_0
         try clear hcz46_1
         try clear hcz46_2
         try clear hcz46_3
         try clear hcz46_4
         try clear hcz46_5
         try clear hcz46_6
         try clear hcz48_0
         try clear hcz48_1
         try clear hcz48_2
         try clear hcz48_3
         try clear hcz48_4
         try clear hcz48_5
         try clear hcz48_6
         try clear hcz52_0
         try clear hcz56_0
         try clear hcz56_1
         try clear hcz56_2
         try clear hcz56_3
         try clear hcz56_4
         try clear hcz56_5
         try clear hcz56_6
         try clear hcz61_0
         try clear hcz68_0
         try clear hcz68_1
         try clear hcz68_2
         try clear hcz68_3
         try clear hcz68_4
         try clear hcz68_5
         try clear hcz68_6
         try clear hcz68_7
         try clear hcz71_0
         try clear hcz71_1
         try clear hcz71_2
         try clear hcz71_3
         try clear hcz71_4
         try clear hcz71_5
         try clear hcz71_6
         try clear hcz71_7
         try clear hcz77_0
         try clear hcz77_1
         try clear hcz77_2
         try clear hcz77_3
         try clear hcz77_4
         try clear hcz77_5
         try clear hcz77_6
         try clear hcz82_0
         try clear hcz82_1
         try clear hcz82_2
         try clear hcz82_3
         try clear hcz82_4
         try clear hcz82_5
         try clear hcz82_6
         try clear hcz82_7
         try clear hcz85_0
         try clear hcz85_1
         try clear hcz85_2
         try clear hcz85_3
         try clear hcz85_4
         try clear hcz85_5
         try clear hcz85_6
         try clear hcz87_0
         try clear hcz91_0
         try clear hcz91_1
         try clear hcz91_2
         try clear hcz91_3
         try clear hcz91_4
         try clear hcz91_5
         try clear hcz91_6
         try clear hcz91_7
         try clear hcz98_0
         try clear hcz98_1
         try clear hcz98_2
         try clear hcz98_3
         try clear hcz98_4
         try clear hcz98_5
         try clear hcz98_6
         try clear hcz98_7
         try clear hfz100_0
         try clear hfz100_1
         try clear hfz100_2
         try clear hfz100_3
         try clear hfz100_4
         try clear hfz100_5
         try clear hfz100_6
         try clear hfz100_7
         try clear hfz18_0
         try clear hfz22_0
         try clear hfz22_1
         try clear hfz22_2
         try clear hfz22_3
         try clear hfz22_4
         try clear hfz22_5
         try clear hfz22_6
         try clear hfz24_0
         try clear hfz24_1
         try clear hfz24_2
         try clear hfz24_3
         try clear hfz24_4
         try clear hfz24_5
         try clear hfz24_6
         try clear hfz26_0
         try clear hfz26_1
         try clear hfz26_2
         try clear hfz26_3
         try clear hfz26_4
         try clear hfz26_5
         try clear hfz26_6
         try clear hfz26_7
         try clear hfz30_0
         try clear hfz34_0
         try clear hfz34_1
         try clear hfz34_2
         try clear hfz34_3
         try clear hfz34_4
         try clear hfz34_5
         try clear hfz34_6
         try clear hfz36_0
         try clear hfz36_1
         try clear hfz36_2
         try clear hfz36_3
         try clear hfz36_4
         try clear hfz36_5
         try clear hfz36_6
         try clear hfz38_0
         try clear hfz38_1
         try clear hfz38_2
         try clear hfz38_3
         try clear hfz38_4
         try clear hfz38_5
         try clear hfz38_6
         try clear hfz38_7
         try clear hfz42_0
         try clear hfz46_0
         try clear hfz46_1
         try clear hfz46_2
         try clear hfz46_3
         try clear hfz46_4
         try clear hfz46_5
         try clear hfz46_6
         try clear hfz48_0
         try clear hfz48_1
         try clear hfz48_2
         try clear hfz48_3
         try clear hfz48_4
         try clear hfz48_5
         try clear hfz48_6
         try clear hfz52_0
         try clear hfz56_0
         try clear hfz56_1
         try clear hfz56_2
         try clear hfz56_3
         try clear hfz56_4
         try clear hfz56_5
         try clear hfz56_6
         try clear hfz61_0
         try clear hfz68_0
         try clear hfz68_1
         try clear hfz68_2
         try clear hfz68_3
         try clear hfz68_4
         try clear hfz68_5
         try clear hfz68_6
         try clear hfz68_7
         try clear hfz71_0
         try clear hfz71_1
         try clear hfz71_2
         try clear hfz71_3
         try clear hfz71_4
         try clear hfz71_5
         try clear hfz71_6
         try clear hfz71_7
         try clear hfz77_0
         try clear hfz77_1
         try clear hfz77_2
         try clear hfz77_3
         try clear hfz77_4
         try clear hfz77_5
         try clear hfz77_6
         try clear hfz82_0
         try clear hfz82_1
         try clear hfz82_2
         try clear hfz82_3
         try clear hfz82_4
         try clear hfz82_5
         try clear hfz82_6
         try clear hfz82_7
         try clear hfz85_0
         try clear hfz85_1
         try clear hfz85_2
         try clear hfz85_3
         try clear hfz85_4
         try clear hfz85_5
         try clear hfz85_6
         try clear hfz87_0
         try clear hfz91_0
         try clear hfz91_1
         try clear hfz91_2
         try clear hfz91_3
         try clear hfz91_4
         try clear hfz91_5
         try clear hfz91_6
         try clear hfz91_7
         try clear hfz98_0
         try clear hfz98_1
         try clear hfz98_2
         try clear hfz98_3
         try clear hfz98_4
         try clear hfz98_5
         try clear hfz98_6
         try clear hfz98_7
         try clear p2
         try clear p6
         try clear p64
         obtain ⟨kq, x8_91, x142000_91, x142001_91, x142002_91, x142003_91, x142004_91, x142005_91, x142006_91, x142007_91, HA, HJ91, HO_8, BK140, BK141, BK142, BK143, HB⟩ := hcut
         cases kq with
         | zero => exact absurd HA.out (by simp [modbus_Step.j3])
         | succ kj91 =>
          have H := HA.out
          clear HA
          simp only [modbus_Step.j3] at H
          by_cases c101 : x142003_91 = 0
          ·rw [if_pos c101] at H
           have c101b0 : (x142003_91 == 0) = true := beq_iff_eq.mpr c101
           have c101b1 : (x142003_91 != 0) = false := bne_eq_false_iff_eq.mpr c101
           clear c101
           by_cases c102 : (x142007_91.size : Int) < 4100
           ·rw [if_pos c102] at H
            have c102b0 : decide ((x142007_91.size : Int) < 4100) = true := decide_eq_true c102
            have c102b1 : decide (x142007_91.size < 4100) = true := decide_eq_true (by omega)
            clear c102
            obtain ⟨y152, hy152⟩ : ∃ y_ : List Int, y_ = (([(a2_3) % 256] : List Int)) := ⟨_, rfl⟩
            replace H : (if x142007_91.size + (strOfNums y152).size ≤ 9223372036854775807 then (some (x142000_91, a2_1, a2_1, wrap64 (x142003_91 + 1), x142004_91, a2_2, x142006_91, x142007_91 ++ (strOfNums y152), x8_91)) else (none)) = some (r1, r2, r3, r4, r5, r6, r7, r8, r9) := by first | (rw [hy152]; with_reducible exact H) | (have H2_ := (Option.bind_some _ _).symm.trans H; rw [hy152]; with_reducible exact H2_) | (have H2_ := (Option.bind_some _ _).symm.trans H; with_reducible exact H2_) | with_reducible exact H | (rw [hy152]; exact H) | exact H
            have Ny152 := Aside0.mk hy152
            clear hy152
            by_cases c103 : x142007_91.size + (strOfNums y152).size ≤ 9223372036854775807
            ·rw [if_pos c103] at H
             have c103b0 := eq_true c103
             have c103b1 : decide (x142007_91.size + (strOfNums y152).size ≤ 9223372036854775807) = true := decide_eq_true c103
             try have c103b2 : (9223372036854775807 < x142007_91.size + (strOfNums y152).size) = False := eq_false (Nat.not_lt.2 c103)
             simp only [Option.some.injEq, Prod.mk.injEq] at H
             obtain ⟨rfl, rfl, rfl, rfl, rfl, rfl, rfl, rfl, rfl⟩ := H
             have hnb104 := NB141_140.out
             have hnc104 := NB140_141.out
             have hnb105 := NB141_142.out
             have hnc105 := NB142_141.out
             have hnb106 := NB141_143.out
             have hnc106 := NB143_141.out
             have hcz107_0 : wc.cell? ⟨gb141, 0, none⟩ = some (.int .i64 x142000_91) := (blk_cell BK141.out 0).trans rfl
             have hcz107_1 : wc.cell? ⟨gb141, 1, none⟩ = some (.int .i64 x142001_91) := (blk_cell BK141.out 1).trans rfl
             have hcz107_2 : wc.cell? ⟨gb141, 2, none⟩ = some (.int .i64 x142002_91) := (blk_cell BK141.out 2).trans rfl
             have hcz107_3 : wc.cell? ⟨gb141, 3, none⟩ = some (.int .i64 x142003_91) := (blk_cell BK141.out 3).trans rfl
             have hcz107_4 : wc.cell? ⟨gb141, 4, none⟩ = some (.int .i64 x142004_91) := (blk_cell BK141.out 4).trans rfl
             have hcz107_5 : wc.cell? ⟨gb141, 5, none⟩ = some (.int .i64 x142005_91) := (blk_cell BK141.out 5).trans rfl
             have hcz107_6 : wc.cell? ⟨gb141, 6, none⟩ = some (.int .i64 x142006_91) := (blk_cell BK141.out 6).trans rfl
             have hcz107_7 : wc.cell? ⟨gb141, 7, none⟩ = some (.string x142007_91) := (blk_cell BK141.out 7).trans rfl
             have hfz107_0 := blk_frozen BK141.out 0
             have hfz107_1 := blk_frozen BK141.out 1
             have hfz107_2 := blk_frozen BK141.out 2
             have hfz107_3 := blk_frozen BK141.out 3
             have hfz107_4 := blk_frozen BK141.out 4
             have hfz107_5 := blk_frozen BK141.out 5
             have hfz107_6 := blk_frozen BK141.out 6
             have hfz107_7 := blk_frozen BK141.out 7
             have hnb108 := NB142_140.out
             have hnc108 := NB140_142.out
             have hnb109 := NB142_143.out
             have hnc109 := NB143_142.out
             have hcz110_0 : wc.cell? ⟨gb142, 0, none⟩ = some (.int .i64 a2_0) := (blk_cell BK142.out 0).trans rfl
             have hcz110_1 : wc.cell? ⟨gb142, 1, none⟩ = some (.int .i64 a2_1) := (blk_cell BK142.out 1).trans rfl
             have hcz110_2 : wc.cell? ⟨gb142, 2, none⟩ = some (.int .i64 a2_2) := (blk_cell BK142.out 2).trans rfl
             have hcz110_3 : wc.cell? ⟨gb142, 3, none⟩ = some (.int .i64 a2_3) := (blk_cell BK142.out 3).trans rfl
             have hcz110_4 : wc.cell? ⟨gb142, 4, none⟩ = some (.int .i64 a2_4) := (blk_cell BK142.out 4).trans rfl
             have hcz110_5 : wc.cell? ⟨gb142, 5, none⟩ = some (.string a2_5) := (blk_cell BK142.out 5).trans rfl
             have hcz110_6 : wc.cell? ⟨gb142, 6, none⟩ = some (.int .i64 a2_6) := (blk_cell BK142.out 6).trans rfl
             have hfz110_0 := blk_frozen BK142.out 0
             have hfz110_1 := blk_frozen BK142.out 1
             have hfz110_2 := blk_frozen BK142.out 2
             have hfz110_3 := blk_frozen BK142.out 3
             have hfz110_4 := blk_frozen BK142.out 4
             have hfz110_5 := blk_frozen BK142.out 5
             have hfz110_6 := blk_frozen BK142.out 6
             try go_wp2_with (first | ((with_reducible refine gate_dst (N := 92) rfl ?_); refine Kd.R_lit (Kd.int .u8) _ 5 ?hg (N := 92) ?hd (xs := ([(a2_3) % 256] : List Int)) (inner := [.int .u8 ((a2_3) % 256)]) (ok := fun _ => True) (okp := fun _ => True) ?hr ?hp (fun _ hk => hk) trivial (Below.refl _ _) (Nat.le_refl _) (by simp) ?_; (case hd => rfl); (case hg => rfl); (case hr => first | (go_simp; done) | (go_simp; rfl)); (case hp => exact (Reps.one (show Kd.M (Kd.int .u8) _ _ _ ((a2_3) % 256) [.int .u8 ((a2_3) % 256)] from rfl) (Reps.none _ _))); intro v153 w111 ho112 hb hg_ hnew_; clear hg_ hnew_; (first | rw [← Ny152.out] at ho112 | (simp only [Int.reduceToNat] at ho112; rw [← Ny152.out] at ho112)); have n0_ := Aside0.mk (Kd.R_below (by (with_reducible repeat (first | apply Kd.R_alloc | apply Kd.R_drewN | apply Kd.R_drew)); exact (Kd.R_mono (Kd.R_far (p := ⟨gb141, 3, none⟩) (Kd.R_far (p := ⟨gb141, 2, none⟩) (Kd.R_types HO_8.out BK141.out (by decide)) (fun _ hk => hk.2) (.int .i64 a2_1)) (fun _ hk => hk.2) (.int .i64 (wrap64 (x142003_91 + 1)))) (fun _ h_ => h_.1))) hb); have n1_ := Aside0.mk (Kd.R_lower ho112 (below_size (hbw HB.out))); have n2_ := Aside0.mk (blk_below (g := gb140) (o := .cells #[.int .i64 a0_0] 23 (0, 0)) (by (with_reducible repeat (first | refine blk_drewN ?_ _ | refine blk_drew ?_ | refine blk_alloc ?_ _)); refine blk_far ?_ NB140_141.out _; (with_reducible repeat (first | refine blk_drewN ?_ _ | refine blk_drew ?_ | refine blk_alloc ?_ _)); refine blk_far ?_ NB140_141.out _; (with_reducible repeat (first | refine blk_drewN ?_ _ | refine blk_drew ?_ | refine blk_alloc ?_ _)); exact BK140.out) hb); have n3_ := Aside0.mk (blk_below (g := gb141) (o := .cells #[.int .i64 x142000_91, .int .i64 x142001_91, .int .i64 a2_1, .int .i64 (wrap64 (x142003_91 + 1)), .int .i64 x142004_91, .int .i64 x142005_91, .int .i64 x142006_91, .string x142007_91] 27 (0, 0)) (by (with_reducible repeat (first | refine blk_drewN ?_ _ | refine blk_drew ?_ | refine blk_alloc ?_ _)); refine blk_put (cs := #[.int .i64 x142000_91, .int .i64 x142001_91, .int .i64 a2_1, .int .i64 x142003_91, .int .i64 x142004_91, .int .i64 x142005_91, .int .i64 x142006_91, .string x142007_91]) ?_ 3 _ rfl; (with_reducible repeat (first | refine blk_drewN ?_ _ | refine blk_drew ?_ | refine blk_alloc ?_ _)); refine blk_put (cs := #[.int .i64 x142000_91, .int .i64 x142001_91, .int .i64 x142002_91, .int .i64 x142003_91, .int .i64 x142004_91, .int .i64 x142005_91, .int .i64 x142006_91, .string x142007_91]) ?_ 2 _ rfl; (with_reducible repeat (first | refine blk_drewN ?_ _ | refine blk_drew ?_ | refine blk_alloc ?_ _)); exact BK141.out) hb); have n4_ := Aside0.mk (blk_below (g := gb142) (o := .cells #[.int .i64 a2_0, .int .i64 a2_1, .int .i64 a2_2, .int .i64 a2_3, .int .i64 a2_4, .string a2_5, .int .i64 a2_6] 32 (0, 0)) (by (with_reducible repeat (first | refine blk_drewN ?_ _ | refine blk_drew ?_ | refine blk_alloc ?_ _)); refine blk_far ?_ NB142_141.out _; (with_reducible repeat (first | refine blk_drewN ?_ _ | refine blk_drew ?_ | refine blk_alloc ?_ _)); refine blk_far ?_ NB142_141.out _; (with_reducible repeat (first | refine blk_drewN ?_ _ | refine blk_drew ?_ | refine blk_alloc ?_ _)); exact BK142.out) hb); have n5_ := Aside0.mk (blk_below (g := gb143) (o := .cells #[.int .i64 x144000_62, .int .i64 x144001_62, .int .i64 x144002_62, .int .i64 x144003_62, .int .i64 x144004_62, .int .i64 x144005_62, .int .i64 x144006_62, .string x144007_62] 27 (0, 0)) (by (with_reducible repeat (first | refine blk_drewN ?_ _ | refine blk_drew ?_ | refine blk_alloc ?_ _)); refine blk_far ?_ NB143_141.out _; (with_reducible repeat (first | refine blk_drewN ?_ _ | refine blk_drew ?_ | refine blk_alloc ?_ _)); refine blk_far ?_ NB143_141.out _; (with_reducible repeat (first | refine blk_drewN ?_ _ | refine blk_drew ?_ | refine blk_alloc ?_ _)); exact BK143.out) hb); have n6_ := Aside0.mk (below_step (hbw HB.out) hb); clear HO_8; clear BK140; clear BK141; clear BK142; clear BK143; clear HB; have HO_8 := n0_; have HO154 := n1_; have BK140 := n2_; have BK141 := n3_; have BK142 := n4_; have BK143 := n5_; have HB := n6_; clear n0_ n1_ n2_ n3_ n4_ n5_ n6_; clear hb ho112; have hcv113 := own_string (P := Tryd.prog) Tryd.underlying49 Tryd.underlying5 Tryd.underlying9 (Kd.own_of_R HO154.out); have hcz114_0 : w111.cell? ⟨gb141, 0, none⟩ = some (.int .i64 x142000_91) := (blk_cell BK141.out 0).trans rfl; have hcz114_1 : w111.cell? ⟨gb141, 1, none⟩ = some (.int .i64 x142001_91) := (blk_cell BK141.out 1).trans rfl; have hcz114_2 : w111.cell? ⟨gb141, 2, none⟩ = some (.int .i64 a2_1) := (blk_cell BK141.out 2).trans rfl; have hcz114_3 : w111.cell? ⟨gb141, 3, none⟩ = some (.int .i64 (wrap64 (x142003_91 + 1))) := (blk_cell BK141.out 3).trans rfl; have hcz114_4 : w111.cell? ⟨gb141, 4, none⟩ = some (.int .i64 x142004_91) := (blk_cell BK141.out 4).trans rfl; have hcz114_5 : w111.cell? ⟨gb141, 5, none⟩ = some (.int .i64 x142005_91) := (blk_cell BK141.out 5).trans rfl; have hcz114_6 : w111.cell? ⟨gb141, 6, none⟩ = some (.int .i64 x142006_91) := (blk_cell BK141.out 6).trans rfl; have hcz114_7 : w111.cell? ⟨gb141, 7, none⟩ = some (.string x142007_91) := (blk_cell BK141.out 7).trans rfl; have hfz114_0 := blk_frozen BK141.out 0; have hfz114_1 := blk_frozen BK141.out 1; have hfz114_2 := blk_frozen BK141.out 2; have hfz114_3 := blk_frozen BK141.out 3; have hfz114_4 := blk_frozen BK141.out 4; have hfz114_5 := blk_frozen BK141.out 5; have hfz114_6 := blk_frozen BK141.out 6; have hfz114_7 := blk_frozen BK141.out 7))
             have n0_ : Aside0 (Kd.R k32 32 (w111.setCell ⟨gb141, 7, none⟩ (.string (x142007_91 ++ (strOfNums y152)))) w.heap.size (fun k_ => k_ ≠ gb142) u8 x8_91) := ⟨by (with_reducible repeat (first | apply Kd.R_alloc | apply Kd.R_drewN | apply Kd.R_drew)); exact Kd.R_mono (Kd.R_far (p := ⟨gb141, 7, none⟩) (Kd.R_types HO_8.out BK141.out (by decide)) (fun _ hk => hk.2) (.string (x142007_91 ++ (strOfNums y152)))) (fun _ hk => hk.1)⟩
             have n1_ : Aside0 (Kd.R (Kd.int .u8) 5 (w111.setCell ⟨gb141, 7, none⟩ (.string (x142007_91 ++ (strOfNums y152)))) w.heap.size (fun _ => True) v153 y152) := ⟨by (with_reducible repeat (first | apply Kd.R_alloc | apply Kd.R_drewN | apply Kd.R_drew)); exact Kd.R_mono (Kd.R_far (p := ⟨gb141, 7, none⟩) (Kd.R_types HO154.out BK141.out (by decide)) (fun _ hk => hk.2) (.string (x142007_91 ++ (strOfNums y152)))) (fun _ hk => trivial)⟩
             have n2_ : Aside0 ((w111.setCell ⟨gb141, 7, none⟩ (.string (x142007_91 ++ (strOfNums y152)))).heap[gb140]? = some (.cells #[.int .i64 a0_0] 23 (0, 0))) := ⟨by (with_reducible repeat (first | refine blk_drewN ?_ _ | refine blk_drew ?_ | refine blk_alloc ?_ _)); refine blk_far ?_ NB140_141.out _; (with_reducible repeat (first | refine blk_drewN ?_ _ | refine blk_drew ?_ | refine blk_alloc ?_ _)); exact BK140.out⟩
             have n3_ : Aside0 ((w111.setCell ⟨gb141, 7, none⟩ (.string (x142007_91 ++ (strOfNums y152)))).heap[gb141]? = some (.cells #[.int .i64 x142000_91, .int .i64 x142001_91, .int .i64 a2_1, .int .i64 (wrap64 (x142003_91 + 1)), .int .i64 x142004_91, .int .i64 x142005_91, .int .i64 x142006_91, .string (x142007_91 ++ (strOfNums y152))] 27 (0, 0))) := ⟨by (with_reducible repeat (first | refine blk_drewN ?_ _ | refine blk_drew ?_ | refine blk_alloc ?_ _)); refine blk_put (cs := #[.int .i64 x142000_91, .int .i64 x142001_91, .int .i64 a2_1, .int .i64 (wrap64 (x142003_91 + 1)), .int .i64 x142004_91, .int .i64 x142005_91, .int .i64 x142006_91, .string x142007_91]) ?_ 7 _ rfl; (with_reducible repeat (first | refine blk_drewN ?_ _ | refine blk_drew ?_ | refine blk_alloc ?_ _)); exact BK141.out⟩
             have n4_ : Aside0 ((w111.setCell ⟨gb141, 7, none⟩ (.string (x142007_91 ++ (strOfNums y152)))).heap[gb142]? = some (.cells #[.int .i64 a2_0, .int .i64 a2_1, .int .i64 a2_2, .int .i64 a2_3, .int .i64 a2_4, .string a2_5, .int .i64 a2_6] 32 (0, 0))) := ⟨by (with_reducible repeat (first | refine blk_drewN ?_ _ | refine blk_drew ?_ | refine blk_alloc ?_ _)); refine blk_far ?_ NB142_141.out _; (with_reducible repeat (first | refine blk_drewN ?_ _ | refine blk_drew ?_ | refine blk_alloc ?_ _)); exact BK142.out⟩
             have n5_ : Aside0 ((w111.setCell ⟨gb141, 7, none⟩ (.string (x142007_91 ++ (strOfNums y152)))).heap[gb143]? = some (.cells #[.int .i64 x144000_62, .int .i64 x144001_62, .int .i64 x144002_62, .int .i64 x144003_62, .int .i64 x144004_62, .int .i64 x144005_62, .int .i64 x144006_62, .string x144007_62] 27 (0, 0))) := ⟨by (with_reducible repeat (first | refine blk_drewN ?_ _ | refine blk_drew ?_ | refine blk_alloc ?_ _)); refine blk_far ?_ NB143_141.out _; (with_reducible repeat (first | refine blk_drewN ?_ _ | refine blk_drew ?_ | refine blk_alloc ?_ _)); exact BK143.out⟩
             have n6_ : Aside0 (Below w.heap.size w (w111.setCell ⟨gb141, 7, none⟩ (.string (x142007_91 ++ (strOfNums y152))))) := ⟨by repeat (first | (with_reducible first | exact HB.out | apply below_alloc | apply pw_below_drewN | apply below_drew1 | refine below_set ?_ GE140.out | refine below_set ?_ GE141.out | refine below_set ?_ GE142.out | refine below_set ?_ GE143.out) | exact HB.out)⟩
             (try clear HO_8)
             (try clear HO154)
             (try clear BK140)
             (try clear BK141)
             (try clear BK142)
             (try clear BK143)
             (try clear HB)
             generalize (w111.setCell ⟨gb141, 7, none⟩ (.string (x142007_91 ++ (strOfNums y152)))) = w115 at n0_ n1_ n2_ n3_ n4_ n5_ n6_ ⊢
             have HO_8 := n0_
             have HO154 := n1_
             have BK140 := n2_
             have BK141 := n3_
             have BK142 := n4_
             have BK143 := n5_
             have HB := n6_
             clear n0_ n1_ n2_ n3_ n4_ n5_ n6_
             have n0_ := Aside0.mk (Kd.R_drew HO_8.out)
             have n1_ := Aside0.mk (Kd.R_drew HO154.out)
             have n2_ := Aside0.mk (blk_drew BK140.out)
             have n3_ := Aside0.mk (blk_drew BK141.out)
             have n4_ := Aside0.mk (blk_drew BK142.out)
             have n5_ := Aside0.mk (blk_drew BK143.out)
             have n6_ := Aside0.mk (below_drew1 HB.out)
             clear HO_8
             clear HO154
             clear BK140
             clear BK141
             clear BK142
             clear BK143
             clear HB
             have HO_8 := n0_
             have HO154 := n1_
             have BK140 := n2_
             have BK141 := n3_
             have BK142 := n4_
             have BK143 := n5_
             have HB := n6_
             clear n0_ n1_ n2_ n3_ n4_ n5_ n6_
             refine start_ (n := 8) (S := fun w' => w'.cell? ⟨gb142, 0, none⟩ = some (.int .i64 a2_0) ∧ w'.cell? ⟨gb142, 1, none⟩ = some (.int .i64 a2_1) ∧ w'.cell? ⟨gb142, 2, none⟩ = some (.int .i64 a2_2) ∧ w'.cell? ⟨gb142, 3, none⟩ = some (.int .i64 a2_3) ∧ w'.cell? ⟨gb142, 4, none⟩ = some (.int .i64 a2_4) ∧ w'.cell? ⟨gb142, 5, none⟩ = some (.string a2_5) ∧ w'.cell? ⟨gb142, 6, none⟩ = some (.int .i64 a2_6)) (ds := []) #[false, false, false, false, false, false, false, false] (by kernel_rfl) rfl rfl ⟨(blk_cell BK142.out 0).trans rfl, (blk_cell BK142.out 1).trans rfl, (blk_cell BK142.out 2).trans rfl, (blk_cell BK142.out 3).trans rfl, (blk_cell BK142.out 4).trans rfl, (blk_cell BK142.out 5).trans rfl, (blk_cell BK142.out 6).trans rfl⟩ (fun hHeld => ?_); refine with_tabW modbus_Step.tab16 modbus_Step.bits16 (fun HT_ HW_ => ?_)
             generalize w115.drew = w116 at HO_8 HO154 BK140 BK141 BK142 BK143 HB hHeld ⊢
             refine pstep 0 (some 96) #[true, false, false, false, false, false, false, false] HT_.out ?_
             refine pstep 2 (some 98) #[true, false, true, false, false, false, false, false] HT_.out ?_
             refine take_ (i := 1) (N := some 97) (v := ?_) (a' := ?_) #[true, true, true, false, false, false, false, false] rfl rfl (take_ofW HT_.out HW_.out (by kernel_rfl)) (fun _ _ _ h => h) (Or.inl ⟨by rfl, ?_⟩) hHeld ?_ ?_
             rotate_left
             ·rintro w' ⟨s0, s1, s2, s3, s4, s5, s6⟩
              go_simp
              with_reducible rfl
             rotate_left
             ·simp only [Act.put, nrm]
              rfl
             refine pstep 4 (some 100) #[true, true, true, false, true, false, false, false] HT_.out ?_
             refine take_ (i := 3) (N := some 99) (v := ?_) (a' := ?_) #[true, true, true, true, true, false, false, false] rfl rfl (take_ofW HT_.out HW_.out (by kernel_rfl)) (fun _ _ _ h => h) (Or.inl ⟨by rfl, ?_⟩) hHeld ?_ ?_
             rotate_left
             ·rintro w' ⟨s0, s1, s2, s3, s4, s5, s6⟩
              go_simp
              with_reducible rfl
             rotate_left
             ·simp only [Act.put, nrm]
              rfl
             refine one_ (i := 5) (N := none) #[true, true, true, true, true, true, false, false] rfl rfl (one_of HT_.out (by kernel_rfl)) (by decide) (fun K hK => ?_)
             have hs117 : w116.cell? ⟨gb141, 1, none⟩ = some (.int .i64 x142001_91) := (blk_cell BK141.out 1).trans rfl
             have hfs117 := blk_frozen BK141.out 1
             have hns117_0 := NB140_141.out
             have hns117_2 := NB142_141.out
             have hns117_3 := NB143_141.out
             have hms117_0 := NB141_140.out
             have hms117_2 := NB141_142.out
             have hms117_3 := NB141_143.out
             refine skip_ (w1 := ?_) (by rfl) rfl ?_ ?_
             rotate_left
             ·go_simp
              rfl
             refine hK.out _ _ ⟨((cell_far (p := ⟨gb141, _, none⟩) NB142_141.out _).trans (hHeld.1)), ((cell_far (p := ⟨gb141, _, none⟩) NB142_141.out _).trans (hHeld.2.1)), ((cell_far (p := ⟨gb141, _, none⟩) NB142_141.out _).trans (hHeld.2.2.1)), ((cell_far (p := ⟨gb141, _, none⟩) NB142_141.out _).trans (hHeld.2.2.2.1)), ((cell_far (p := ⟨gb141, _, none⟩) NB142_141.out _).trans (hHeld.2.2.2.2.1)), ((cell_far (p := ⟨gb141, _, none⟩) NB142_141.out _).trans (hHeld.2.2.2.2.2.1)), ((cell_far (p := ⟨gb141, _, none⟩) NB142_141.out _).trans (hHeld.2.2.2.2.2.2))⟩ (fun hHeld => ?_)
             clear hK K
             refine pstep 6 (some 101) #[true, true, true, true, true, true, true, false] HT_.out ?_
             refine one_ (i := 7) (N := none) #[true, true, true, true, true, true, true, true] rfl rfl (one_of HT_.out (by kernel_rfl)) (by decide) (fun K hK => ?_)
             have hs118 : w116.cell? ⟨gb141, 5, none⟩ = some (.int .i64 x142005_91) := (blk_cell BK141.out 5).trans rfl
             have hfs118 := blk_frozen BK141.out 5
             have hns118_0 := NB140_141.out
             have hns118_2 := NB142_141.out
             have hns118_3 := NB143_141.out
             have hms118_0 := NB141_140.out
             have hms118_2 := NB141_142.out
             have hms118_3 := NB141_143.out
             refine skip_ (w1 := ?_) (by rfl) rfl ?_ ?_
             rotate_left
             ·go_simp
              rfl
             refine hK.out _ _ ⟨((cell_far (p := ⟨gb141, _, none⟩) NB142_141.out _).trans (hHeld.1)), ((cell_far (p := ⟨gb141, _, none⟩) NB142_141.out _).trans (hHeld.2.1)), ((cell_far (p := ⟨gb141, _, none⟩) NB142_141.out _).trans (hHeld.2.2.1)), ((cell_far (p := ⟨gb141, _, none⟩) NB142_141.out _).trans (hHeld.2.2.2.1)), ((cell_far (p := ⟨gb141, _, none⟩) NB142_141.out _).trans (hHeld.2.2.2.2.1)), ((cell_far (p := ⟨gb141, _, none⟩) NB142_141.out _).trans (hHeld.2.2.2.2.2.1)), ((cell_far (p := ⟨gb141, _, none⟩) NB142_141.out _).trans (hHeld.2.2.2.2.2.2))⟩ (fun hHeld => ?_)
             clear hK K
             refine done_ (done_of HT_.out (by kernel_rfl)) ?_
             have hcz119_0 : w116.cell? ⟨gb141, 0, none⟩ = some (.int .i64 x142000_91) := (blk_cell BK141.out 0).trans rfl
             have hcz119_1 : w116.cell? ⟨gb141, 1, none⟩ = some (.int .i64 x142001_91) := (blk_cell BK141.out 1).trans rfl
             have hcz119_2 : w116.cell? ⟨gb141, 2, none⟩ = some (.int .i64 a2_1) := (blk_cell BK141.out 2).trans rfl
             have hcz119_3 : w116.cell? ⟨gb141, 3, none⟩ = some (.int .i64 (wrap64 (x142003_91 + 1))) := (blk_cell BK141.out 3).trans rfl
             have hcz119_4 : w116.cell? ⟨gb141, 4, none⟩ = some (.int .i64 x142004_91) := (blk_cell BK141.out 4).trans rfl
             have hcz119_5 : w116.cell? ⟨gb141, 5, none⟩ = some (.int .i64 x142005_91) := (blk_cell BK141.out 5).trans rfl
             have hcz119_6 : w116.cell? ⟨gb141, 6, none⟩ = some (.int .i64 x142006_91) := (blk_cell BK141.out 6).trans rfl
             have hcz119_7 : w116.cell? ⟨gb141, 7, none⟩ = some (.string (x142007_91 ++ (strOfNums y152))) := (blk_cell BK141.out 7).trans rfl
             have hfz119_0 := blk_frozen BK141.out 0
             have hfz119_1 := blk_frozen BK141.out 1
             have hfz119_2 := blk_frozen BK141.out 2
             have hfz119_3 := blk_frozen BK141.out 3
             have hfz119_4 := blk_frozen BK141.out 4
             have hfz119_5 := blk_frozen BK141.out 5
             have hfz119_6 := blk_frozen BK141.out 6
             have hfz119_7 := blk_frozen BK141.out 7
             have hnb120 := NB143_140.out
             have hnc120 := NB140_143.out
             have hcz121_0 : w116.cell? ⟨gb143, 0, none⟩ = some (.int .i64 x144000_62) := (blk_cell BK143.out 0).trans rfl
             have hcz121_1 : w116.cell? ⟨gb143, 1, none⟩ = some (.int .i64 x144001_62) := (blk_cell BK143.out 1).trans rfl
             have hcz121_2 : w116.cell? ⟨gb143, 2, none⟩ = some (.int .i64 x144002_62) := (blk_cell BK143.out 2).trans rfl
             have hcz121_3 : w116.cell? ⟨gb143, 3, none⟩ = some (.int .i64 x144003_62) := (blk_cell BK143.out 3).trans rfl
             have hcz121_4 : w116.cell? ⟨gb143, 4, none⟩ = some (.int .i64 x144004_62) := (blk_cell BK143.out 4).trans rfl
             have hcz121_5 : w116.cell? ⟨gb143, 5, none⟩ = some (.int .i64 x144005_62) := (blk_cell BK143.out 5).trans rfl
             have hcz121_6 : w116.cell? ⟨gb143, 6, none⟩ = some (.int .i64 x144006_62) := (blk_cell BK143.out 6).trans rfl
             have hcz121_7 : w116.cell? ⟨gb143, 7, none⟩ = some (.string x144007_62) := (blk_cell BK143.out 7).trans rfl
             have hfz121_0 := blk_frozen BK143.out 0
             have hfz121_1 := blk_frozen BK143.out 1
             have hfz121_2 := blk_frozen BK143.out 2
             have hfz121_3 := blk_frozen BK143.out 3
             have hfz121_4 := blk_frozen BK143.out 4
             have hfz121_5 := blk_frozen BK143.out 5
             have hfz121_6 := blk_frozen BK143.out 6
             have hfz121_7 := blk_frozen BK143.out 7
             try go_wp2
             refine bodyPost_ret (results_ct rfl _ _ gb143 27 #[.int .i64 x142000_91, .int .i64 a2_1, .int .i64 a2_1, .int .i64 (wrap64 (x142003_91 + 1)), .int .i64 x142004_91, .int .i64 a2_2, .int .i64 x142006_91, .string (x142007_91 ++ (strOfNums y152))] (0, 0) _ rfl (by (with_reducible repeat (first | refine blk_drewN ?_ _ | refine blk_drew ?_ | refine blk_alloc ?_ _)); refine blk_put (cs := #[.int .i64 x142000_91, .int .i64 a2_1, .int .i64 a2_1, .int .i64 (wrap64 (x142003_91 + 1)), .int .i64 x142004_91, .int .i64 a2_2, .int .i64 x142006_91, .string x144007_62]) ?_ 7 _ rfl; (with_reducible repeat (first | refine blk_drewN ?_ _ | refine blk_drew ?_ | refine blk_alloc ?_ _)); refine blk_put (cs := #[.int .i64 x142000_91, .int .i64 a2_1, .int .i64 a2_1, .int .i64 (wrap64 (x142003_91 + 1)), .int .i64 x142004_91, .int .i64 a2_2, .int .i64 x144006_62, .string x144007_62]) ?_ 6 _ rfl; (with_reducible repeat (first | refine blk_drewN ?_ _ | refine blk_drew ?_ | refine blk_alloc ?_ _)); refine blk_put (cs := #[.int .i64 x142000_91, .int .i64 a2_1, .int .i64 a2_1, .int .i64 (wrap64 (x142003_91 + 1)), .int .i64 x142004_91, .int .i64 x144005_62, .int .i64 x144006_62, .string x144007_62]) ?_ 5 _ rfl; (with_reducible repeat (first | refine blk_drewN ?_ _ | refine blk_drew ?_ | refine blk_alloc ?_ _)); refine blk_put (cs := #[.int .i64 x142000_91, .int .i64 a2_1, .int .i64 a2_1, .int .i64 (wrap64 (x142003_91 + 1)), .int .i64 x144004_62, .int .i64 x144005_62, .int .i64 x144006_62, .string x144007_62]) ?_ 4 _ rfl; (with_reducible repeat (first | refine blk_drewN ?_ _ | refine blk_drew ?_ | refine blk_alloc ?_ _)); refine blk_put (cs := #[.int .i64 x142000_91, .int .i64 a2_1, .int .i64 a2_1, .int .i64 x144003_62, .int .i64 x144004_62, .int .i64 x144005_62, .int .i64 x144006_62, .string x144007_62]) ?_ 3 _ rfl; (with_reducible repeat (first | refine blk_drewN ?_ _ | refine blk_drew ?_ | refine blk_alloc ?_ _)); refine blk_put (cs := #[.int .i64 x142000_91, .int .i64 a2_1, .int .i64 x144002_62, .int .i64 x144003_62, .int .i64 x144004_62, .int .i64 x144005_62, .int .i64 x144006_62, .string x144007_62]) ?_ 2 _ rfl; (with_reducible repeat (first | refine blk_drewN ?_ _ | refine blk_drew ?_ | refine blk_alloc ?_ _)); refine blk_put (cs := #[.int .i64 x142000_91, .int .i64 x144001_62, .int .i64 x144002_62, .int .i64 x144003_62, .int .i64 x144004_62, .int .i64 x144005_62, .int .i64 x144006_62, .string x144007_62]) ?_ 1 _ rfl; (with_reducible repeat (first | refine blk_drewN ?_ _ | refine blk_drew ?_ | refine blk_alloc ?_ _)); refine blk_put (cs := #[.int .i64 x144000_62, .int .i64 x144001_62, .int .i64 x144002_62, .int .i64 x144003_62, .int .i64 x144004_62, .int .i64 x144005_62, .int .i64 x144006_62, .string x144007_62]) ?_ 0 _ rfl; (with_reducible repeat (first | refine blk_drewN ?_ _ | refine blk_drew ?_ | refine blk_alloc ?_ _)); refine blk_far ?_ NB143_141.out _; (with_reducible repeat (first | refine blk_drewN ?_ _ | refine blk_drew ?_ | refine blk_alloc ?_ _)); refine blk_far ?_ NB143_141.out _; (with_reducible repeat (first | refine blk_drewN ?_ _ | refine blk_drew ?_ | refine blk_alloc ?_ _)); exact BK143.out) Tryd.underlying27 rfl (by kernel_rfl)) rfl ?_
             exact ⟨_, by first | rfl | (simp [errW_none, errW_some] <;> rfl) | (simp [*, errW_none, errW_some] <;> rfl), by (with_reducible repeat (first | apply Kd.R_alloc | apply Kd.R_drewN | apply Kd.R_drew)); exact Kd.R_mono (Kd.R_far (p := ⟨gb143, 7, none⟩) (Kd.R_far (p := ⟨gb143, 6, none⟩) (Kd.R_far (p := ⟨gb143, 5, none⟩) (Kd.R_far (p := ⟨gb143, 4, none⟩) (Kd.R_far (p := ⟨gb143, 3, none⟩) (Kd.R_far (p := ⟨gb143, 2, none⟩) (Kd.R_far (p := ⟨gb143, 1, none⟩) (Kd.R_far (p := ⟨gb143, 0, none⟩) (Kd.R_far (p := ⟨gb141, 5, none⟩) (Kd.R_far (p := ⟨gb141, 1, none⟩) (Kd.R_types (Kd.R_types HO_8.out BK141.out (by decide)) BK143.out (by decide)) (fun _ hk => hk.1.2) (.int .i64 a2_1)) (fun _ hk => hk.1.2) (.int .i64 a2_2)) (fun _ hk => hk.2) (.int .i64 x142000_91)) (fun _ hk => hk.2) (.int .i64 a2_1)) (fun _ hk => hk.2) (.int .i64 a2_1)) (fun _ hk => hk.2) (.int .i64 (wrap64 (x142003_91 + 1)))) (fun _ hk => hk.2) (.int .i64 x142004_91)) (fun _ hk => hk.2) (.int .i64 a2_2)) (fun _ hk => hk.2) (.int .i64 x142006_91)) (fun _ hk => hk.2) (.string (x142007_91 ++ (strOfNums y152)))) (fun _ hk => trivial), by repeat (first | (with_reducible first | exact HB.out | apply below_alloc | apply pw_below_drewN | apply below_drew1 | refine below_set ?_ GE140.out | refine below_set ?_ GE141.out | refine below_set ?_ GE142.out | refine below_set ?_ GE143.out) | exact HB.out)⟩
            ·rw [if_neg c103] at H
             exact absurd H (by simp)
           ·rw [if_neg c102] at H
            have c102b0 : decide ((x142007_91.size : Int) < 4100) = false := decide_eq_false c102
            have c102b1 : decide (x142007_91.size < 4100) = false := decide_eq_false (by omega)
            clear c102
            simp only [Option.some.injEq, Prod.mk.injEq] at H
            obtain ⟨rfl, rfl, rfl, rfl, rfl, rfl, rfl, rfl, rfl⟩ := H
            have hnb122 := NB141_140.out
            have hnc122 := NB140_141.out
            have hnb123 := NB141_142.out
            have hnc123 := NB142_141.out
            have hnb124 := NB141_143.out
            have hnc124 := NB143_141.out
            have hcz125_0 : wc.cell? ⟨gb141, 0, none⟩ = some (.int .i64 x142000_91) := (blk_cell BK141.out 0).trans rfl
            have hcz125_1 : wc.cell? ⟨gb141, 1, none⟩ = some (.int .i64 x142001_91) := (blk_cell BK141.out 1).trans rfl
            have hcz125_2 : wc.cell? ⟨gb141, 2, none⟩ = some (.int .i64 x142002_91) := (blk_cell BK141.out 2).trans rfl
            have hcz125_3 : wc.cell? ⟨gb141, 3, none⟩ = some (.int .i64 x142003_91) := (blk_cell BK141.out 3).trans rfl
            have hcz125_4 : wc.cell? ⟨gb141, 4, none⟩ = some (.int .i64 x142004_91) := (blk_cell BK141.out 4).trans rfl
            have hcz125_5 : wc.cell? ⟨gb141, 5, none⟩ = some (.int .i64 x142005_91) := (blk_cell BK141.out 5).trans rfl
            have hcz125_6 : wc.cell? ⟨gb141, 6, none⟩ = some (.int .i64 x142006_91) := (blk_cell BK141.out 6).trans rfl
            have hcz125_7 : wc.cell? ⟨gb141, 7, none⟩ = some (.string x142007_91) := (blk_cell BK141.out 7).trans rfl
            have hfz125_0 := blk_frozen BK141.out 0
            have hfz125_1 := blk_frozen BK141.out 1
            have hfz125_2 := blk_frozen BK141.out 2
            have hfz125_3 := blk_frozen BK141.out 3
            have hfz125_4 := blk_frozen BK141.out 4
            have hfz125_5 := blk_frozen BK141.out 5
            have hfz125_6 := blk_frozen BK141.out 6
            have hfz125_7 := blk_frozen BK141.out 7
            have hnb126 := NB142_140.out
            have hnc126 := NB140_142.out
            have hnb127 := NB142_143.out
            have hnc127 := NB143_142.out
            have hcz128_0 : wc.cell? ⟨gb142, 0, none⟩ = some (.int .i64 a2_0) := (blk_cell BK142.out 0).trans rfl
            have hcz128_1 : wc.cell? ⟨gb142, 1, none⟩ = some (.int .i64 a2_1) := (blk_cell BK142.out 1).trans rfl
            have hcz128_2 : wc.cell? ⟨gb142, 2, none⟩ = some (.int .i64 a2_2) := (blk_cell BK142.out 2).trans rfl
            have hcz128_3 : wc.cell? ⟨gb142, 3, none⟩ = some (.int .i64 a2_3) := (blk_cell BK142.out 3).trans rfl
            have hcz128_4 : wc.cell? ⟨gb142, 4, none⟩ = some (.int .i64 a2_4) := (blk_cell BK142.out 4).trans rfl
            have hcz128_5 : wc.cell? ⟨gb142, 5, none⟩ = some (.string a2_5) := (blk_cell BK142.out 5).trans rfl
            have hcz128_6 : wc.cell? ⟨gb142, 6, none⟩ = some (.int .i64 a2_6) := (blk_cell BK142.out 6).trans rfl
            have hfz128_0 := blk_frozen BK142.out 0
            have hfz128_1 := blk_frozen BK142.out 1
            have hfz128_2 := blk_frozen BK142.out 2
            have hfz128_3 := blk_frozen BK142.out 3
            have hfz128_4 := blk_frozen BK142.out 4
            have hfz128_5 := blk_frozen BK142.out 5
            have hfz128_6 := blk_frozen BK142.out 6
            try go_wp2
            have n0_ : Aside0 (Kd.R k32 32 ((wc.setCell ⟨gb141, 2, none⟩ (.int .i64 a2_1)).setCell ⟨gb141, 3, none⟩ (.int .i64 (wrap64 (x142003_91 + 1)))) w.heap.size (fun k_ => k_ ≠ gb142) u8 x8_91) := ⟨by (with_reducible repeat (first | apply Kd.R_alloc | apply Kd.R_drewN | apply Kd.R_drew)); exact Kd.R_mono (Kd.R_far (p := ⟨gb141, 3, none⟩) (Kd.R_far (p := ⟨gb141, 2, none⟩) (Kd.R_types HO_8.out BK141.out (by decide)) (fun _ hk => hk.2) (.int .i64 a2_1)) (fun _ hk => hk.2) (.int .i64 (wrap64 (x142003_91 + 1)))) (fun _ hk => hk.1)⟩
            have n1_ : Aside0 (((wc.setCell ⟨gb141, 2, none⟩ (.int .i64 a2_1)).setCell ⟨gb141, 3, none⟩ (.int .i64 (wrap64 (x142003_91 + 1)))).heap[gb140]? = some (.cells #[.int .i64 a0_0] 23 (0, 0))) := ⟨by (with_reducible repeat (first | refine blk_drewN ?_ _ | refine blk_drew ?_ | refine blk_alloc ?_ _)); refine blk_far ?_ NB140_141.out _; (with_reducible repeat (first | refine blk_drewN ?_ _ | refine blk_drew ?_ | refine blk_alloc ?_ _)); refine blk_far ?_ NB140_141.out _; (with_reducible repeat (first | refine blk_drewN ?_ _ | refine blk_drew ?_ | refine blk_alloc ?_ _)); exact BK140.out⟩
            have n2_ : Aside0 (((wc.setCell ⟨gb141, 2, none⟩ (.int .i64 a2_1)).setCell ⟨gb141, 3, none⟩ (.int .i64 (wrap64 (x142003_91 + 1)))).heap[gb141]? = some (.cells #[.int .i64 x142000_91, .int .i64 x142001_91, .int .i64 a2_1, .int .i64 (wrap64 (x142003_91 + 1)), .int .i64 x142004_91, .int .i64 x142005_91, .int .i64 x142006_91, .string x142007_91] 27 (0, 0))) := ⟨by (with_reducible repeat (first | refine blk_drewN ?_ _ | refine blk_drew ?_ | refine blk_alloc ?_ _)); refine blk_put (cs := #[.int .i64 x142000_91, .int .i64 x142001_91, .int .i64 a2_1, .int .i64 x142003_91, .int .i64 x142004_91, .int .i64 x142005_91, .int .i64 x142006_91, .string x142007_91]) ?_ 3 _ rfl; (with_reducible repeat (first | refine blk_drewN ?_ _ | refine blk_drew ?_ | refine blk_alloc ?_ _)); refine blk_put (cs := #[.int .i64 x142000_91, .int .i64 x142001_91, .int .i64 x142002_91, .int .i64 x142003_91, .int .i64 x142004_91, .int .i64 x142005_91, .int .i64 x142006_91, .string x142007_91]) ?_ 2 _ rfl; (with_reducible repeat (first | refine blk_drewN ?_ _ | refine blk_drew ?_ | refine blk_alloc ?_ _)); exact BK141.out⟩
            have n3_ : Aside0 (((wc.setCell ⟨gb141, 2, none⟩ (.int .i64 a2_1)).setCell ⟨gb141, 3, none⟩ (.int .i64 (wrap64 (x142003_91 + 1)))).heap[gb142]? = some (.cells #[.int .i64 a2_0, .int .i64 a2_1, .int .i64 a2_2, .int .i64 a2_3, .int .i64 a2_4, .string a2_5, .int .i64 a2_6] 32 (0, 0))) := ⟨by (with_reducible repeat (first | refine blk_drewN ?_ _ | refine blk_drew ?_ | refine blk_alloc ?_ _)); refine blk_far ?_ NB142_141.out _; (with_reducible repeat (first | refine blk_drewN ?_ _ | refine blk_drew ?_ | refine blk_alloc ?_ _)); refine blk_far ?_ NB142_141.out _; (with_reducible repeat (first | refine blk_drewN ?_ _ | refine blk_drew ?_ | refine blk_alloc ?_ _)); exact BK142.out⟩
            have n4_ : Aside0 (((wc.setCell ⟨gb141, 2, none⟩ (.int .i64 a2_1)).setCell ⟨gb141, 3, none⟩ (.int .i64 (wrap64 (x142003_91 + 1)))).heap[gb143]? = some (.cells #[.int .i64 x144000_62, .int .i64 x144001_62, .int .i64 x144002_62, .int .i64 x144003_62, .int .i64 x144004_62, .int .i64 x144005_62, .int .i64 x144006_62, .string x144007_62] 27 (0, 0))) := ⟨by (with_reducible repeat (first | refine blk_drewN ?_ _ | refine blk_drew ?_ | refine blk_alloc ?_ _)); refine blk_far ?_ NB143_141.out _; (with_reducible repeat (first | refine blk_drewN ?_ _ | refine blk_drew ?_ | refine blk_alloc ?_ _)); refine blk_far ?_ NB143_141.out _; (with_reducible repeat (first | refine blk_drewN ?_ _ | refine blk_drew ?_ | refine blk_alloc ?_ _)); exact BK143.out⟩
            have n5_ : Aside0 (Below w.heap.size w ((wc.setCell ⟨gb141, 2, none⟩ (.int .i64 a2_1)).setCell ⟨gb141, 3, none⟩ (.int .i64 (wrap64 (x142003_91 + 1))))) := ⟨by repeat (first | (with_reducible first | exact HB.out | apply below_alloc | apply pw_below_drewN | apply below_drew1 | refine below_set ?_ GE140.out | refine below_set ?_ GE141.out | refine below_set ?_ GE142.out | refine below_set ?_ GE143.out) | exact HB.out)⟩
            (try clear HO_8)
            (try clear BK140)
            (try clear BK141)
            (try clear BK142)
            (try clear BK143)
            (try clear HB)
            generalize ((wc.setCell ⟨gb141, 2, none⟩ (.int .i64 a2_1)).setCell ⟨gb141, 3, none⟩ (.int .i64 (wrap64 (x142003_91 + 1)))) = w129 at n0_ n1_ n2_ n3_ n4_ n5_ ⊢
            have HO_8 := n0_
            have BK140 := n1_
            have BK141 := n2_
            have BK142 := n3_
            have BK143 := n4_
            have HB := n5_
            clear n0_ n1_ n2_ n3_ n4_ n5_
            have n0_ := Aside0.mk (Kd.R_drew HO_8.out)
            have n1_ := Aside0.mk (blk_drew BK140.out)
            have n2_ := Aside0.mk (blk_drew BK141.out)
            have n3_ := Aside0.mk (blk_drew BK142.out)
            have n4_ := Aside0.mk (blk_drew BK143.out)
            have n5_ := Aside0.mk (below_drew1 HB.out)
            clear HO_8
            clear BK140
            clear BK141
            clear BK142
            clear BK143
            clear HB
            have HO_8 := n0_
            have BK140 := n1_
            have BK141 := n2_
            have BK142 := n3_
            have BK143 := n4_
            have HB := n5_
            clear n0_ n1_ n2_ n3_ n4_ n5_
            refine start_ (n := 8) (S := fun w' => w'.cell? ⟨gb142, 0, none⟩ = some (.int .i64 a2_0) ∧ w'.cell? ⟨gb142, 1, none⟩ = some (.int .i64 a2_1) ∧ w'.cell? ⟨gb142, 2, none⟩ = some (.int .i64 a2_2) ∧ w'.cell? ⟨gb142, 3, none⟩ = some (.int .i64 a2_3) ∧ w'.cell? ⟨gb142, 4, none⟩ = some (.int .i64 a2_4) ∧ w'.cell? ⟨gb142, 5, none⟩ = some (.string a2_5) ∧ w'.cell? ⟨gb142, 6, none⟩ = some (.int .i64 a2_6)) (ds := []) #[false, false, false, false, false, false, false, false] (by kernel_rfl) rfl rfl ⟨(blk_cell BK142.out 0).trans rfl, (blk_cell BK142.out 1).trans rfl, (blk_cell BK142.out 2).trans rfl, (blk_cell BK142.out 3).trans rfl, (blk_cell BK142.out 4).trans rfl, (blk_cell BK142.out 5).trans rfl, (blk_cell BK142.out 6).trans rfl⟩ (fun hHeld => ?_); refine with_tabW modbus_Step.tab16 modbus_Step.bits16 (fun HT_ HW_ => ?_)
            generalize w129.drew = w130 at HO_8 BK140 BK141 BK142 BK143 HB hHeld ⊢
            refine pstep 0 (some 96) #[true, false, false, false, false, false, false, false] HT_.out ?_
            refine pstep 2 (some 98) #[true, false, true, false, false, false, false, false] HT_.out ?_
            refine take_ (i := 1) (N := some 97) (v := ?_) (a' := ?_) #[true, true, true, false, false, false, false, false] rfl rfl (take_ofW HT_.out HW_.out (by kernel_rfl)) (fun _ _ _ h => h) (Or.inl ⟨by rfl, ?_⟩) hHeld ?_ ?_
            rotate_left
            ·rintro w' ⟨s0, s1, s2, s3, s4, s5, s6⟩
             go_simp
             with_reducible rfl
            rotate_left
            ·simp only [Act.put, nrm]
             rfl
            refine pstep 4 (some 100) #[true, true, true, false, true, false, false, false] HT_.out ?_
            refine take_ (i := 3) (N := some 99) (v := ?_) (a' := ?_) #[true, true, true, true, true, false, false, false] rfl rfl (take_ofW HT_.out HW_.out (by kernel_rfl)) (fun _ _ _ h => h) (Or.inl ⟨by rfl, ?_⟩) hHeld ?_ ?_
            rotate_left
            ·rintro w' ⟨s0, s1, s2, s3, s4, s5, s6⟩
             go_simp
             with_reducible rfl
            rotate_left
            ·simp only [Act.put, nrm]
             rfl
            refine one_ (i := 5) (N := none) #[true, true, true, true, true, true, false, false] rfl rfl (one_of HT_.out (by kernel_rfl)) (by decide) (fun K hK => ?_)
            have hs131 : w130.cell? ⟨gb141, 1, none⟩ = some (.int .i64 x142001_91) := (blk_cell BK141.out 1).trans rfl
            have hfs131 := blk_frozen BK141.out 1
            have hns131_0 := NB140_141.out
            have hns131_2 := NB142_141.out
            have hns131_3 := NB143_141.out
            have hms131_0 := NB141_140.out
            have hms131_2 := NB141_142.out
            have hms131_3 := NB141_143.out
            refine skip_ (w1 := ?_) (by rfl) rfl ?_ ?_
            rotate_left
            ·go_simp
             rfl
            refine hK.out _ _ ⟨((cell_far (p := ⟨gb141, _, none⟩) NB142_141.out _).trans (hHeld.1)), ((cell_far (p := ⟨gb141, _, none⟩) NB142_141.out _).trans (hHeld.2.1)), ((cell_far (p := ⟨gb141, _, none⟩) NB142_141.out _).trans (hHeld.2.2.1)), ((cell_far (p := ⟨gb141, _, none⟩) NB142_141.out _).trans (hHeld.2.2.2.1)), ((cell_far (p := ⟨gb141, _, none⟩) NB142_141.out _).trans (hHeld.2.2.2.2.1)), ((cell_far (p := ⟨gb141, _, none⟩) NB142_141.out _).trans (hHeld.2.2.2.2.2.1)), ((cell_far (p := ⟨gb141, _, none⟩) NB142_141.out _).trans (hHeld.2.2.2.2.2.2))⟩ (fun hHeld => ?_)
            clear hK K
            refine pstep 6 (some 101) #[true, true, true, true, true, true, true, false] HT_.out ?_
            refine one_ (i := 7) (N := none) #[true, true, true, true, true, true, true, true] rfl rfl (one_of HT_.out (by kernel_rfl)) (by decide) (fun K hK => ?_)
            have hs132 : w130.cell? ⟨gb141, 5, none⟩ = some (.int .i64 x142005_91) := (blk_cell BK141.out 5).trans rfl
            have hfs132 := blk_frozen BK141.out 5
            have hns132_0 := NB140_141.out
            have hns132_2 := NB142_141.out
            have hns132_3 := NB143_141.out
            have hms132_0 := NB141_140.out
            have hms132_2 := NB141_142.out
            have hms132_3 := NB141_143.out
            refine skip_ (w1 := ?_) (by rfl) rfl ?_ ?_
            rotate_left
            ·go_simp
             rfl
            refine hK.out _ _ ⟨((cell_far (p := ⟨gb141, _, none⟩) NB142_141.out _).trans (hHeld.1)), ((cell_far (p := ⟨gb141, _, none⟩) NB142_141.out _).trans (hHeld.2.1)), ((cell_far (p := ⟨gb141, _, none⟩) NB142_141.out _).trans (hHeld.2.2.1)), ((cell_far (p := ⟨gb141, _, none⟩) NB142_141.out _).trans (hHeld.2.2.2.1)), ((cell_far (p := ⟨gb141, _, none⟩) NB142_141.out _).trans (hHeld.2.2.2.2.1)), ((cell_far (p := ⟨gb141, _, none⟩) NB142_141.out _).trans (hHeld.2.2.2.2.2.1)), ((cell_far (p := ⟨gb141, _, none⟩) NB142_141.out _).trans (hHeld.2.2.2.2.2.2))⟩ (fun hHeld => ?_)
            clear hK K
            refine done_ (done_of HT_.out (by kernel_rfl)) ?_
            have hcz133_0 : w130.cell? ⟨gb141, 0, none⟩ = some (.int .i64 x142000_91) := (blk_cell BK141.out 0).trans rfl
            have hcz133_1 : w130.cell? ⟨gb141, 1, none⟩ = some (.int .i64 x142001_91) := (blk_cell BK141.out 1).trans rfl
            have hcz133_2 : w130.cell? ⟨gb141, 2, none⟩ = some (.int .i64 a2_1) := (blk_cell BK141.out 2).trans rfl
            have hcz133_3 : w130.cell? ⟨gb141, 3, none⟩ = some (.int .i64 (wrap64 (x142003_91 + 1))) := (blk_cell BK141.out 3).trans rfl
            have hcz133_4 : w130.cell? ⟨gb141, 4, none⟩ = some (.int .i64 x142004_91) := (blk_cell BK141.out 4).trans rfl
            have hcz133_5 : w130.cell? ⟨gb141, 5, none⟩ = some (.int .i64 x142005_91) := (blk_cell BK141.out 5).trans rfl
            have hcz133_6 : w130.cell? ⟨gb141, 6, none⟩ = some (.int .i64 x142006_91) := (blk_cell BK141.out 6).trans rfl
            have hcz133_7 : w130.cell? ⟨gb141, 7, none⟩ = some (.string x142007_91) := (blk_cell BK141.out 7).trans rfl
            have hfz133_0 := blk_frozen BK141.out 0
            have hfz133_1 := blk_frozen BK141.out 1
            have hfz133_2 := blk_frozen BK141.out 2
            have hfz133_3 := blk_frozen BK141.out 3
            have hfz133_4 := blk_frozen BK141.out 4
            have hfz133_5 := blk_frozen BK141.out 5
            have hfz133_6 := blk_frozen BK141.out 6
            have hfz133_7 := blk_frozen BK141.out 7
            have hnb134 := NB143_140.out
            have hnc134 := NB140_143.out
            have hcz135_0 : w130.cell? ⟨gb143, 0, none⟩ = some (.int .i64 x144000_62) := (blk_cell BK143.out 0).trans rfl
            have hcz135_1 : w130.cell? ⟨gb143, 1, none⟩ = some (.int .i64 x144001_62) := (blk_cell BK143.out 1).trans rfl
            have hcz135_2 : w130.cell? ⟨gb143, 2, none⟩ = some (.int .i64 x144002_62) := (blk_cell BK143.out 2).trans rfl
            have hcz135_3 : w130.cell? ⟨gb143, 3, none⟩ = some (.int .i64 x144003_62) := (blk_cell BK143.out 3).trans rfl
            have hcz135_4 : w130.cell? ⟨gb143, 4, none⟩ = some (.int .i64 x144004_62) := (blk_cell BK143.out 4).trans rfl
            have hcz135_5 : w130.cell? ⟨gb143, 5, none⟩ = some (.int .i64 x144005_62) := (blk_cell BK143.out 5).trans rfl
            have hcz135_6 : w130.cell? ⟨gb143, 6, none⟩ = some (.int .i64 x144006_62) := (blk_cell BK143.out 6).trans rfl
            have hcz135_7 : w130.cell? ⟨gb143, 7, none⟩ = some (.string x144007_62) := (blk_cell BK143.out 7).trans rfl
            have hfz135_0 := blk_frozen BK143.out 0
            have hfz135_1 := blk_frozen BK143.out 1
            have hfz135_2 := blk_frozen BK143.out 2
            have hfz135_3 := blk_frozen BK143.out 3
            have hfz135_4 := blk_frozen BK143.out 4
            have hfz135_5 := blk_frozen BK143.out 5
            have hfz135_6 := blk_frozen BK143.out 6
            have hfz135_7 := blk_frozen BK143.out 7
            try go_wp2
            refine bodyPost_ret (results_ct rfl _ _ gb143 27 #[.int .i64 x142000_91, .int .i64 a2_1, .int .i64 a2_1, .int .i64 (wrap64 (x142003_91 + 1)), .int .i64 x142004_91, .int .i64 a2_2, .int .i64 x142006_91, .string x142007_91] (0, 0) _ rfl (by (with_reducible repeat (first | refine blk_drewN ?_ _ | refine blk_drew ?_ | refine blk_alloc ?_ _)); refine blk_put (cs := #[.int .i64 x142000_91, .int .i64 a2_1, .int .i64 a2_1, .int .i64 (wrap64 (x142003_91 + 1)), .int .i64 x142004_91, .int .i64 a2_2, .int .i64 x142006_91, .string x144007_62]) ?_ 7 _ rfl; (with_reducible repeat (first | refine blk_drewN ?_ _ | refine blk_drew ?_ | refine blk_alloc ?_ _)); refine blk_put (cs := #[.int .i64 x142000_91, .int .i64 a2_1, .int .i64 a2_1, .int .i64 (wrap64 (x142003_91 + 1)), .int .i64 x142004_91, .int .i64 a2_2, .int .i64 x144006_62, .string x144007_62]) ?_ 6 _ rfl; (with_reducible repeat (first | refine blk_drewN ?_ _ | refine blk_drew ?_ | refine blk_alloc ?_ _)); refine blk_put (cs := #[.int .i64 x142000_91, .int .i64 a2_1, .int .i64 a2_1, .int .i64 (wrap64 (x142003_91 + 1)), .int .i64 x142004_91, .int .i64 x144005_62, .int .i64 x144006_62, .string x144007_62]) ?_ 5 _ rfl; (with_reducible repeat (first | refine blk_drewN ?_ _ | refine blk_drew ?_ | refine blk_alloc ?_ _)); refine blk_put (cs := #[.int .i64 x142000_91, .int .i64 a2_1, .int .i64 a2_1, .int .i64 (wrap64 (x142003_91 + 1)), .int .i64 x144004_62, .int .i64 x144005_62, .int .i64 x144006_62, .string x144007_62]) ?_ 4 _ rfl; (with_reducible repeat (first | refine blk_drewN ?_ _ | refine blk_drew ?_ | refine blk_alloc ?_ _)); refine blk_put (cs := #[.int .i64 x142000_91, .int .i64 a2_1, .int .i64 a2_1, .int .i64 x144003_62, .int .i64 x144004_62, .int .i64 x144005_62, .int .i64 x144006_62, .string x144007_62]) ?_ 3 _ rfl; (with_reducible repeat (first | refine blk_drewN ?_ _ | refine blk_drew ?_ | refine blk_alloc ?_ _)); refine blk_put (cs := #[.int .i64 x142000_91, .int .i64 a2_1, .int .i64 x144002_62, .int .i64 x144003_62, .int .i64 x144004_62, .int .i64 x144005_62, .int .i64 x144006_62, .string x144007_62]) ?_ 2 _ rfl; (with_reducible repeat (first | refine blk_drewN ?_ _ | refine blk_drew ?_ | refine blk_alloc ?_ _)); refine blk_put (cs := #[.int .i64 x142000_91, .int .i64 x144001_62, .int .i64 x144002_62, .int .i64 x144003_62, .int .i64 x144004_62, .int .i64 x144005_62, .int .i64 x144006_62, .string x144007_62]) ?_ 1 _ rfl; (with_reducible repeat (first | refine blk_drewN ?_ _ | refine blk_drew ?_ | refine blk_alloc ?_ _)); refine blk_put (cs := #[.int .i64 x144000_62, .int .i64 x144001_62, .int .i64 x144002_62, .int .i64 x144003_62, .int .i64 x144004_62, .int .i64 x144005_62, .int .i64 x144006_62, .string x144007_62]) ?_ 0 _ rfl; (with_reducible repeat (first | refine blk_drewN ?_ _ | refine blk_drew ?_ | refine blk_alloc ?_ _)); refine blk_far ?_ NB143_141.out _; (with_reducible repeat (first | refine blk_drewN ?_ _ | refine blk_drew ?_ | refine blk_alloc ?_ _)); refine blk_far ?_ NB143_141.out _; (with_reducible repeat (first | refine blk_drewN ?_ _ | refine blk_drew ?_ | refine blk_alloc ?_ _)); exact BK143.out) Tryd.underlying27 rfl (by kernel_rfl)) rfl ?_
            exact ⟨_, by first | rfl | (simp [errW_none, errW_some] <;> rfl) | (simp [*, errW_none, errW_some] <;> rfl), by (with_reducible repeat (first | apply Kd.R_alloc | apply Kd.R_drewN | apply Kd.R_drew)); exact Kd.R_mono (Kd.R_far (p := ⟨gb143, 7, none⟩) (Kd.R_far (p := ⟨gb143, 6, none⟩) (Kd.R_far (p := ⟨gb143, 5, none⟩) (Kd.R_far (p := ⟨gb143, 4, none⟩) (Kd.R_far (p := ⟨gb143, 3, none⟩) (Kd.R_far (p := ⟨gb143, 2, none⟩) (Kd.R_far (p := ⟨gb143, 1, none⟩) (Kd.R_far (p := ⟨gb143, 0, none⟩) (Kd.R_far (p := ⟨gb141, 5, none⟩) (Kd.R_far (p := ⟨gb141, 1, none⟩) (Kd.R_types (Kd.R_types HO_8.out BK141.out (by decide)) BK143.out (by decide)) (fun _ hk => hk.1.2) (.int .i64 a2_1)) (fun _ hk => hk.1.2) (.int .i64 a2_2)) (fun _ hk => hk.2) (.int .i64 x142000_91)) (fun _ hk => hk.2) (.int .i64 a2_1)) (fun _ hk => hk.2) (.int .i64 a2_1)) (fun _ hk => hk.2) (.int .i64 (wrap64 (x142003_91 + 1)))) (fun _ hk => hk.2) (.int .i64 x142004_91)) (fun _ hk => hk.2) (.int .i64 a2_2)) (fun _ hk => hk.2) (.int .i64 x142006_91)) (fun _ hk => hk.2) (.string x142007_91)) (fun _ hk => trivial), by repeat (first | (with_reducible first | exact HB.out | apply below_alloc | apply pw_below_drewN | apply below_drew1 | refine below_set ?_ GE140.out | refine below_set ?_ GE141.out | refine below_set ?_ GE142.out | refine below_set ?_ GE143.out) | exact HB.out)⟩
          ·rw [if_neg c101] at H
           have c101b0 : (x142003_91 == 0) = false := beq_eq_false_iff_ne.mpr c101
           have c101b1 : (x142003_91 != 0) = true := bne_iff_ne.mpr c101
           by_cases c136 : (x142007_91.size : Int) < 4100
           ·rw [if_pos c136] at H
            have c136b0 : decide ((x142007_91.size : Int) < 4100) = true := decide_eq_true c136
            have c136b1 : decide (x142007_91.size < 4100) = true := decide_eq_true (by omega)
            clear c136
            obtain ⟨y155, hy155⟩ : ∃ y_ : List Int, y_ = (([(a2_3) % 256] : List Int)) := ⟨_, rfl⟩
            replace H : (if x142007_91.size + (strOfNums y155).size ≤ 9223372036854775807 then (some (x142000_91, a2_1, x142002_91, wrap64 (x142003_91 + 1), x142004_91, a2_2, x142006_91, x142007_91 ++ (strOfNums y155), x8_91)) else (none)) = some (r1, r2, r3, r4, r5, r6, r7, r8, r9) := by first | (rw [hy155]; with_reducible exact H) | (have H2_ := (Option.bind_some _ _).symm.trans H; rw [hy155]; with_reducible exact H2_) | (have H2_ := (Option.bind_some _ _).symm.trans H; with_reducible exact H2_) | with_reducible exact H | (rw [hy155]; exact H) | exact H
            have Ny155 := Aside0.mk hy155
            clear hy155
            by_cases c137 : x142007_91.size + (strOfNums y155).size ≤ 9223372036854775807
            ·rw [if_pos c137] at H
             have c137b0 := eq_true c137
             have c137b1 : decide (x142007_91.size + (strOfNums y155).size ≤ 9223372036854775807) = true := decide_eq_true c137
             try have c137b2 : (9223372036854775807 < x142007_91.size + (strOfNums y155).size) = False := eq_false (Nat.not_lt.2 c137)
             simp only [Option.some.injEq, Prod.mk.injEq] at H
             obtain ⟨rfl, rfl, rfl, rfl, rfl, rfl, rfl, rfl, rfl⟩ := H
             have hnb138 := NB141_140.out
             have hnc138 := NB140_141.out
             have hnb139 := NB141_142.out
             have hnc139 := NB142_141.out
             have hnb140 := NB141_143.out
             have hnc140 := NB143_141.out
             have hcz141_0 : wc.cell? ⟨gb141, 0, none⟩ = some (.int .i64 x142000_91) := (blk_cell BK141.out 0).trans rfl
             have hcz141_1 : wc.cell? ⟨gb141, 1, none⟩ = some (.int .i64 x142001_91) := (blk_cell BK141.out 1).trans rfl
             have hcz141_2 : wc.cell? ⟨gb141, 2, none⟩ = some (.int .i64 x142002_91) := (blk_cell BK141.out 2).trans rfl
             have hcz141_3 : wc.cell? ⟨gb141, 3, none⟩ = some (.int .i64 x142003_91) := (blk_cell BK141.out 3).trans rfl
             have hcz141_4 : wc.cell? ⟨gb141, 4, none⟩ = some (.int .i64 x142004_91) := (blk_cell BK141.out 4).trans rfl
             have hcz141_5 : wc.cell? ⟨gb141, 5, none⟩ = some (.int .i64 x142005_91) := (blk_cell BK141.out 5).trans rfl
             have hcz141_6 : wc.cell? ⟨gb141, 6, none⟩ = some (.int .i64 x142006_91) := (blk_cell BK141.out 6).trans rfl
             have hcz141_7 : wc.cell? ⟨gb141, 7, none⟩ = some (.string x142007_91) := (blk_cell BK141.out 7).trans rfl
             have hfz141_0 := blk_frozen BK141.out 0
             have hfz141_1 := blk_frozen BK141.out 1
             have hfz141_2 := blk_frozen BK141.out 2
             have hfz141_3 := blk_frozen BK141.out 3
             have hfz141_4 := blk_frozen BK141.out 4
             have hfz141_5 := blk_frozen BK141.out 5
             have hfz141_6 := blk_frozen BK141.out 6
             have hfz141_7 := blk_frozen BK141.out 7
             have hnb142 := NB142_140.out
             have hnc142 := NB140_142.out
             have hnb143 := NB142_143.out
             have hnc143 := NB143_142.out
             have hcz144_0 : wc.cell? ⟨gb142, 0, none⟩ = some (.int .i64 a2_0) := (blk_cell BK142.out 0).trans rfl
             have hcz144_1 : wc.cell? ⟨gb142, 1, none⟩ = some (.int .i64 a2_1) := (blk_cell BK142.out 1).trans rfl
             have hcz144_2 : wc.cell? ⟨gb142, 2, none⟩ = some (.int .i64 a2_2) := (blk_cell BK142.out 2).trans rfl
             have hcz144_3 : wc.cell? ⟨gb142, 3, none⟩ = some (.int .i64 a2_3) := (blk_cell BK142.out 3).trans rfl
             have hcz144_4 : wc.cell? ⟨gb142, 4, none⟩ = some (.int .i64 a2_4) := (blk_cell BK142.out 4).trans rfl
             have hcz144_5 : wc.cell? ⟨gb142, 5, none⟩ = some (.string a2_5) := (blk_cell BK142.out 5).trans rfl
             have hcz144_6 : wc.cell? ⟨gb142, 6, none⟩ = some (.int .i64 a2_6) := (blk_cell BK142.out 6).trans rfl
             have hfz144_0 := blk_frozen BK142.out 0
             have hfz144_1 := blk_frozen BK142.out 1
             have hfz144_2 := blk_frozen BK142.out 2
             have hfz144_3 := blk_frozen BK142.out 3
             have hfz144_4 := blk_frozen BK142.out 4
             have hfz144_5 := blk_frozen BK142.out 5
             have hfz144_6 := blk_frozen BK142.out 6
             try go_wp2_with (first | ((with_reducible refine gate_dst (N := 92) rfl ?_); refine Kd.R_lit (Kd.int .u8) _ 5 ?hg (N := 92) ?hd (xs := ([(a2_3) % 256] : List Int)) (inner := [.int .u8 ((a2_3) % 256)]) (ok := fun _ => True) (okp := fun _ => True) ?hr ?hp (fun _ hk => hk) trivial (Below.refl _ _) (Nat.le_refl _) (by simp) ?_; (case hd => rfl); (case hg => rfl); (case hr => first | (go_simp; done) | (go_simp; rfl)); (case hp => exact (Reps.one (show Kd.M (Kd.int .u8) _ _ _ ((a2_3) % 256) [.int .u8 ((a2_3) % 256)] from rfl) (Reps.none _ _))); intro v156 w145 ho146 hb hg_ hnew_; clear hg_ hnew_; (first | rw [← Ny155.out] at ho146 | (simp only [Int.reduceToNat] at ho146; rw [← Ny155.out] at ho146)); have n0_ := Aside0.mk (Kd.R_below (by (with_reducible repeat (first | apply Kd.R_alloc | apply Kd.R_drewN | apply Kd.R_drew)); exact (Kd.R_mono (Kd.R_far (p := ⟨gb141, 3, none⟩) (Kd.R_types HO_8.out BK141.out (by decide)) (fun _ hk => hk.2) (.int .i64 (wrap64 (x142003_91 + 1)))) (fun _ h_ => h_.1))) hb); have n1_ := Aside0.mk (Kd.R_lower ho146 (below_size (hbw HB.out))); have n2_ := Aside0.mk (blk_below (g := gb140) (o := .cells #[.int .i64 a0_0] 23 (0, 0)) (by (with_reducible repeat (first | refine blk_drewN ?_ _ | refine blk_drew ?_ | refine blk_alloc ?_ _)); refine blk_far ?_ NB140_141.out _; (with_reducible repeat (first | refine blk_drewN ?_ _ | refine blk_drew ?_ | refine blk_alloc ?_ _)); exact BK140.out) hb); have n3_ := Aside0.mk (blk_below (g := gb141) (o := .cells #[.int .i64 x142000_91, .int .i64 x142001_91, .int .i64 x142002_91, .int .i64 (wrap64 (x142003_91 + 1)), .int .i64 x142004_91, .int .i64 x142005_91, .int .i64 x142006_91, .string x142007_91] 27 (0, 0)) (by (with_reducible repeat (first | refine blk_drewN ?_ _ | refine blk_drew ?_ | refine blk_alloc ?_ _)); refine blk_put (cs := #[.int .i64 x142000_91, .int .i64 x142001_91, .int .i64 x142002_91, .int .i64 x142003_91, .int .i64 x142004_91, .int .i64 x142005_91, .int .i64 x142006_91, .string x142007_91]) ?_ 3 _ rfl; (with_reducible repeat (first | refine blk_drewN ?_ _ | refine blk_drew ?_ | refine blk_alloc ?_ _)); exact BK141.out) hb); have n4_ := Aside0.mk (blk_below (g := gb142) (o := .cells #[.int .i64 a2_0, .int .i64 a2_1, .int .i64 a2_2, .int .i64 a2_3, .int .i64 a2_4, .string a2_5, .int .i64 a2_6] 32 (0, 0)) (by (with_reducible repeat (first | refine blk_drewN ?_ _ | refine blk_drew ?_ | refine blk_alloc ?_ _)); refine blk_far ?_ NB142_141.out _; (with_reducible repeat (first | refine blk_drewN ?_ _ | refine blk_drew ?_ | refine blk_alloc ?_ _)); exact BK142.out) hb); have n5_ := Aside0.mk (blk_below (g := gb143) (o := .cells #[.int .i64 x144000_62, .int .i64 x144001_62, .int .i64 x144002_62, .int .i64 x144003_62, .int .i64 x144004_62, .int .i64 x144005_62, .int .i64 x144006_62, .string x144007_62] 27 (0, 0)) (by (with_reducible repeat (first | refine blk_drewN ?_ _ | refine blk_drew ?_ | refine blk_alloc ?_ _)); refine blk_far ?_ NB143_141.out _; (with_reducible repeat (first | refine blk_drewN ?_ _ | refine blk_drew ?_ | refine blk_alloc ?_ _)); exact BK143.out) hb); have n6_ := Aside0.mk (below_step (hbw HB.out) hb); clear HO_8; clear BK140; clear BK141; clear BK142; clear BK143; clear HB; have HO_8 := n0_; have HO157 := n1_; have BK140 := n2_; have BK141 := n3_; have BK142 := n4_; have BK143 := n5_; have HB := n6_; clear n0_ n1_ n2_ n3_ n4_ n5_ n6_; clear hb ho146; have hcv147 := own_string (P := Tryd.prog) Tryd.underlying49 Tryd.underlying5 Tryd.underlying9 (Kd.own_of_R HO157.out); have hcz148_0 : w145.cell? ⟨gb141, 0, none⟩ = some (.int .i64 x142000_91) := (blk_cell BK141.out 0).trans rfl; have hcz148_1 : w145.cell? ⟨gb141, 1, none⟩ = some (.int .i64 x142001_91) := (blk_cell BK141.out 1).trans rfl; have hcz148_2 : w145.cell? ⟨gb141, 2, none⟩ = some (.int .i64 x142002_91) := (blk_cell BK141.out 2).trans rfl; have hcz148_3 : w145.cell? ⟨gb141, 3, none⟩ = some (.int .i64 (wrap64 (x142003_91 + 1))) := (blk_cell BK141.out 3).trans rfl; have hcz148_4 : w145.cell? ⟨gb141, 4, none⟩ = some (.int .i64 x142004_91) := (blk_cell BK141.out 4).trans rfl; have hcz148_5 : w145.cell? ⟨gb141, 5, none⟩ = some (.int .i64 x142005_91) := (blk_cell BK141.out 5).trans rfl; have hcz148_6 : w145.cell? ⟨gb141, 6, none⟩ = some (.int .i64 x142006_91) := (blk_cell BK141.out 6).trans rfl; have hcz148_7 : w145.cell? ⟨gb141, 7, none⟩ = some (.string x142007_91) := (blk_cell BK141.out 7).trans rfl; have hfz148_0 := blk_frozen BK141.out 0; have hfz148_1 := blk_frozen BK141.out 1; have hfz148_2 := blk_frozen BK141.out 2; have hfz148_3 := blk_frozen BK141.out 3; have hfz148_4 := blk_frozen BK141.out 4; have hfz148_5 := blk_frozen BK141.out 5; have hfz148_6 := blk_frozen BK141.out 6; have hfz148_7 := blk_frozen BK141.out 7))
             have n0_ : Aside0 (Kd.R k32 32 (w145.setCell ⟨gb141, 7, none⟩ (.string (x142007_91 ++ (strOfNums y155)))) w.heap.size (fun k_ => k_ ≠ gb142) u8 x8_91) := ⟨by (with_reducible repeat (first | apply Kd.R_alloc | apply Kd.R_drewN | apply Kd.R_drew)); exact Kd.R_mono (Kd.R_far (p := ⟨gb141, 7, none⟩) (Kd.R_types HO_8.out BK141.out (by decide)) (fun _ hk => hk.2) (.string (x142007_91 ++ (strOfNums y155)))) (fun _ hk => hk.1)⟩
             have n1_ : Aside0 (Kd.R (Kd.int .u8) 5 (w145.setCell ⟨gb141, 7, none⟩ (.string (x142007_91 ++ (strOfNums y155)))) w.heap.size (fun _ => True) v156 y155) := ⟨by (with_reducible repeat (first | apply Kd.R_alloc | apply Kd.R_drewN | apply Kd.R_drew)); exact Kd.R_mono (Kd.R_far (p := ⟨gb141, 7, none⟩) (Kd.R_types HO157.out BK141.out (by decide)) (fun _ hk => hk.2) (.string (x142007_91 ++ (strOfNums y155)))) (fun _ hk => trivial)⟩
             have n2_ : Aside0 ((w145.setCell ⟨gb141, 7, none⟩ (.string (x142007_91 ++ (strOfNums y155)))).heap[gb140]? = some (.cells #[.int .i64 a0_0] 23 (0, 0))) := ⟨by (with_reducible repeat (first | refine blk_drewN ?_ _ | refine blk_drew ?_ | refine blk_alloc ?_ _)); refine blk_far ?_ NB140_141.out _; (with_reducible repeat (first | refine blk_drewN ?_ _ | refine blk_drew ?_ | refine blk_alloc ?_ _)); exact BK140.out⟩
             have n3_ : Aside0 ((w145.setCell ⟨gb141, 7, none⟩ (.string (x142007_91 ++ (strOfNums y155)))).heap[gb141]? = some (.cells #[.int .i64 x142000_91, .int .i64 x142001_91, .int .i64 x142002_91, .int .i64 (wrap64 (x142003_91 + 1)), .int .i64 x142004_91, .int .i64 x142005_91, .int .i64 x142006_91, .string (x142007_91 ++ (strOfNums y155))] 27 (0, 0))) := ⟨by (with_reducible repeat (first | refine blk_drewN ?_ _ | refine blk_drew ?_ | refine blk_alloc ?_ _)); refine blk_put (cs := #[.int .i64 x142000_91, .int .i64 x142001_91, .int .i64 x142002_91, .int .i64 (wrap64 (x142003_91 + 1)), .int .i64 x142004_91, .int .i64 x142005_91, .int .i64 x142006_91, .string x142007_91]) ?_ 7 _ rfl; (with_reducible repeat (first | refine blk_drewN ?_ _ | refine blk_drew ?_ | refine blk_alloc ?_ _)); exact BK141.out⟩
             have n4_ : Aside0 ((w145.setCell ⟨gb141, 7, none⟩ (.string (x142007_91 ++ (strOfNums y155)))).heap[gb142]? = some (.cells #[.int .i64 a2_0, .int .i64 a2_1, .int .i64 a2_2, .int .i64 a2_3, .int .i64 a2_4, .string a2_5, .int .i64 a2_6] 32 (0, 0))) := ⟨by (with_reducible repeat (first | refine blk_drewN ?_ _ | refine blk_drew ?_ | refine blk_alloc ?_ _)); refine blk_far ?_ NB142_141.out _; (with_reducible repeat (first | refine blk_drewN ?_ _ | refine blk_drew ?_ | refine blk_alloc ?_ _)); exact BK142.out⟩
             have n5_ : Aside0 ((w145.setCell ⟨gb141, 7, none⟩ (.string (x142007_91 ++ (strOfNums y155)))).heap[gb143]? = some (.cells #[.int .i64 x144000_62, .int .i64 x144001_62, .int .i64 x144002_62, .int .i64 x144003_62, .int .i64 x144004_62, .int .i64 x144005_62, .int .i64 x144006_62, .string x144007_62] 27 (0, 0))) := ⟨by (with_reducible repeat (first | refine blk_drewN ?_ _ | refine blk_drew ?_ | refine blk_alloc ?_ _)); refine blk_far ?_ NB143_141.out _; (with_reducible repeat (first | refine blk_drewN ?_ _ | refine blk_drew ?_ | refine blk_alloc ?_ _)); exact BK143.out⟩
             have n6_ : Aside0 (Below w.heap.size w (w145.setCell ⟨gb141, 7, none⟩ (.string (x142007_91 ++ (strOfNums y155))))) := ⟨by repeat (first | (with_reducible first | exact HB.out | apply below_alloc | apply pw_below_drewN | apply below_drew1 | refine below_set ?_ GE140.out | refine below_set ?_ GE141.out | refine below_set ?_ GE142.out | refine below_set ?_ GE143.out) | exact HB.out)⟩
             (try clear HO_8)
             (try clear HO157)
             (try clear BK140)
             (try clear BK141)
             (try clear BK142)
             (try clear BK143)
             (try clear HB)
             generalize (w145.setCell ⟨gb141, 7, none⟩ (.string (x142007_91 ++ (strOfNums y155)))) = w149 at n0_ n1_ n2_ n3_ n4_ n5_ n6_ ⊢
             have HO_8 := n0_
             have HO157 := n1_
             have BK140 := n2_
             have BK141 := n3_
             have BK142 := n4_
             have BK143 := n5_
             have HB := n6_
             clear n0_ n1_ n2_ n3_ n4_ n5_ n6_
             have n0_ := Aside0.mk (Kd.R_drew HO_8.out)
             have n1_ := Aside0.mk (Kd.R_drew HO157.out)
             have n2_ := Aside0.mk (blk_drew BK140.out)
             have n3_ := Aside0.mk (blk_drew BK141.out)
             have n4_ := Aside0.mk (blk_drew BK142.out)
             have n5_ := Aside0.mk (blk_drew BK143.out)
             have n6_ := Aside0.mk (below_drew1 HB.out)
             clear HO_8
             clear HO157
             clear BK140
             clear BK141
             clear BK142
             clear BK143
             clear HB
             have HO_8 := n0_
             have HO157 := n1_
             have BK140 := n2_
             have BK141 := n3_
             have BK142 := n4_
             have BK143 := n5_
             have HB := n6_
             clear n0_ n1_ n2_ n3_ n4_ n5_ n6_
             refine start_ (n := 8) (S := fun w' => w'.cell? ⟨gb142, 0, none⟩ = some (.int .i64 a2_0) ∧ w'.cell? ⟨gb142, 1, none⟩ = some (.int .i64 a2_1) ∧ w'.cell? ⟨gb142, 2, none⟩ = some (.int .i64 a2_2) ∧ w'.cell? ⟨gb142, 3, none⟩ = some (.int .i64 a2_3) ∧ w'.cell? ⟨gb142, 4, none⟩ = some (.int .i64 a2_4) ∧ w'.cell? ⟨gb142, 5, none⟩ = some (.string a2_5) ∧ w'.cell? ⟨gb142, 6, none⟩ = some (.int .i64 a2_6)) (ds := []) #[false, false, false, false, false, false, false, false] (by kernel_rfl) rfl rfl ⟨(blk_cell BK142.out 0).trans rfl, (blk_cell BK142.out 1).trans rfl, (blk_cell BK142.out 2).trans rfl, (blk_cell BK142.out 3).trans rfl, (blk_cell BK142.out 4).trans rfl, (blk_cell BK142.out 5).trans rfl, (blk_cell BK142.out 6).trans rfl⟩ (fun hHeld => ?_); refine with_tabW modbus_Step.tab16 modbus_Step.bits16 (fun HT_ HW_ => ?_)
             generalize w149.drew = w150 at HO_8 HO157 BK140 BK141 BK142 BK143 HB hHeld ⊢
             refine pstep 0 (some 96) #[true, false, false, false, false, false, false, false] HT_.out ?_
             refine pstep 2 (some 98) #[true, false, true, false, false, false, false, false] HT_.out ?_
             refine take_ (i := 1) (N := some 97) (v := ?_) (a' := ?_) #[true, true, true, false, false, false, false, false] rfl rfl (take_ofW HT_.out HW_.out (by kernel_rfl)) (fun _ _ _ h => h) (Or.inl ⟨by rfl, ?_⟩) hHeld ?_ ?_
             rotate_left
             ·rintro w' ⟨s0, s1, s2, s3, s4, s5, s6⟩
              go_simp
              with_reducible rfl
             rotate_left
             ·simp only [Act.put, nrm]
              rfl
             refine pstep 4 (some 100) #[true, true, true, false, true, false, false, false] HT_.out ?_
             refine take_ (i := 3) (N := some 99) (v := ?_) (a' := ?_) #[true, true, true, true, true, false, false, false] rfl rfl (take_ofW HT_.out HW_.out (by kernel_rfl)) (fun _ _ _ h => h) (Or.inl ⟨by rfl, ?_⟩) hHeld ?_ ?_
             rotate_left
             ·rintro w' ⟨s0, s1, s2, s3, s4, s5, s6⟩
              go_simp
              with_reducible rfl
             rotate_left
             ·simp only [Act.put, nrm]
              rfl
             refine one_ (i := 5) (N := none) #[true, true, true, true, true, true, false, false] rfl rfl (one_of HT_.out (by kernel_rfl)) (by decide) (fun K hK => ?_)
             have hs151 : w150.cell? ⟨gb141, 1, none⟩ = some (.int .i64 x142001_91) := (blk_cell BK141.out 1).trans rfl
             have hfs151 := blk_frozen BK141.out 1
             have hns151_0 := NB140_141.out
             have hns151_2 := NB142_141.out
             have hns151_3 := NB143_141.out
             have hms151_0 := NB141_140.out
             have hms151_2 := NB141_142.out
             have hms151_3 := NB141_143.out
             refine skip_ (w1 := ?_) (by rfl) rfl ?_ ?_
             rotate_left
             ·go_simp
              rfl
             refine hK.out _ _ ⟨((cell_far (p := ⟨gb141, _, none⟩) NB142_141.out _).trans (hHeld.1)), ((cell_far (p := ⟨gb141, _, none⟩) NB142_141.out _).trans (hHeld.2.1)), ((cell_far (p := ⟨gb141, _, none⟩) NB142_141.out _).trans (hHeld.2.2.1)), ((cell_far (p := ⟨gb141, _, none⟩) NB142_141.out _).trans (hHeld.2.2.2.1)), ((cell_far (p := ⟨gb141, _, none⟩) NB142_141.out _).trans (hHeld.2.2.2.2.1)), ((cell_far (p := ⟨gb141, _, none⟩) NB142_141.out _).trans (hHeld.2.2.2.2.2.1)), ((cell_far (p := ⟨gb141, _, none⟩) NB142_141.out _).trans (hHeld.2.2.2.2.2.2))⟩ (fun hHeld => ?_)
             clear hK K
             refine pstep 6 (some 101) #[true, true, true, true, true, true, true, false] HT_.out ?_
             refine one_ (i := 7) (N := none) #[true, true, true, true, true, true, true, true] rfl rfl (one_of HT_.out (by kernel_rfl)) (by decide) (fun K hK => ?_)
             have hs152 : w150.cell? ⟨gb141, 5, none⟩ = some (.int .i64 x142005_91) := (blk_cell BK141.out 5).trans rfl
             have hfs152 := blk_frozen BK141.out 5
             have hns152_0 := NB140_141.out
             have hns152_2 := NB142_141.out
             have hns152_3 := NB143_141.out
             have hms152_0 := NB141_140.out
             have hms152_2 := NB141_142.out
             have hms152_3 := NB141_143.out
             refine skip_ (w1 := ?_) (by rfl) rfl ?_ ?_
             rotate_left
             ·go_simp
              rfl
             refine hK.out _ _ ⟨((cell_far (p := ⟨gb141, _, none⟩) NB142_141.out _).trans (hHeld.1)), ((cell_far (p := ⟨gb141, _, none⟩) NB142_141.out _).trans (hHeld.2.1)), ((cell_far (p := ⟨gb141, _, none⟩) NB142_141.out _).trans (hHeld.2.2.1)), ((cell_far (p := ⟨gb141, _, none⟩) NB142_141.out _).trans (hHeld.2.2.2.1)), ((cell_far (p := ⟨gb141, _, none⟩) NB142_141.out _).trans (hHeld.2.2.2.2.1)), ((cell_far (p := ⟨gb141, _, none⟩) NB142_141.out _).trans (hHeld.2.2.2.2.2.1)), ((cell_far (p := ⟨gb141, _, none⟩) NB142_141.out _).trans (hHeld.2.2.2.2.2.2))⟩ (fun hHeld => ?_)
             clear hK K
             refine done_ (done_of HT_.out (by kernel_rfl)) ?_
             have hcz153_0 : w150.cell? ⟨gb141, 0, none⟩ = some (.int .i64 x142000_91) := (blk_cell BK141.out 0).trans rfl
             have hcz153_1 : w150.cell? ⟨gb141, 1, none⟩ = some (.int .i64 x142001_91) := (blk_cell BK141.out 1).trans rfl
             have hcz153_2 : w150.cell? ⟨gb141, 2, none⟩ = some (.int .i64 x142002_91) := (blk_cell BK141.out 2).trans rfl
             have hcz153_3 : w150.cell? ⟨gb141, 3, none⟩ = some (.int .i64 (wrap64 (x142003_91 + 1))) := (blk_cell BK141.out 3).trans rfl
             have hcz153_4 : w150.cell? ⟨gb141, 4, none⟩ = some (.int .i64 x142004_91) := (blk_cell BK141.out 4).trans rfl
             have hcz153_5 : w150.cell? ⟨gb141, 5, none⟩ = some (.int .i64 x142005_91) := (blk_cell BK141.out 5).trans rfl
             have hcz153_6 : w150.cell? ⟨gb141, 6, none⟩ = some (.int .i64 x142006_91) := (blk_cell BK141.out 6).trans rfl
             have hcz153_7 : w150.cell? ⟨gb141, 7, none⟩ = some (.string (x142007_91 ++ (strOfNums y155))) := (blk_cell BK141.out 7).trans rfl
             have hfz153_0 := blk_frozen BK141.out 0
             have hfz153_1 := blk_frozen BK141.out 1
             have hfz153_2 := blk_frozen BK141.out 2
             have hfz153_3 := blk_frozen BK141.out 3
             have hfz153_4 := blk_frozen BK141.out 4
             have hfz153_5 := blk_frozen BK141.out 5
             have hfz153_6 := blk_frozen BK141.out 6
             have hfz153_7 := blk_frozen BK141.out 7
             have hnb154 := NB143_140.out
             have hnc154 := NB140_143.out
             have hcz155_0 : w150.cell? ⟨gb143, 0, none⟩ = some (.int .i64 x144000_62) := (blk_cell BK143.out 0).trans rfl
             have hcz155_1 : w150.cell? ⟨gb143, 1, none⟩ = some (.int .i64 x144001_62) := (blk_cell BK143.out 1).trans rfl
             have hcz155_2 : w150.cell? ⟨gb143, 2, none⟩ = some (.int .i64 x144002_62) := (blk_cell BK143.out 2).trans rfl
             have hcz155_3 : w150.cell? ⟨gb143, 3, none⟩ = some (.int .i64 x144003_62) := (blk_cell BK143.out 3).trans rfl
             have hcz155_4 : w150.cell? ⟨gb143, 4, none⟩ = some (.int .i64 x144004_62) := (blk_cell BK143.out 4).trans rfl
             have hcz155_5 : w150.cell? ⟨gb143, 5, none⟩ = some (.int .i64 x144005_62) := (blk_cell BK143.out 5).trans rfl
             have hcz155_6 : w150.cell? ⟨gb143, 6, none⟩ = some (.int .i64 x144006_62) := (blk_cell BK143.out 6).trans rfl
             have hcz155_7 : w150.cell? ⟨gb143, 7, none⟩ = some (.string x144007_62) := (blk_cell BK143.out 7).trans rfl
             have hfz155_0 := blk_frozen BK143.out 0
             have hfz155_1 := blk_frozen BK143.out 1
             have hfz155_2 := blk_frozen BK143.out 2
             have hfz155_3 := blk_frozen BK143.out 3
             have hfz155_4 := blk_frozen BK143.out 4
             have hfz155_5 := blk_frozen BK143.out 5
             have hfz155_6 := blk_frozen BK143.out 6
             have hfz155_7 := blk_frozen BK143.out 7
             try go_wp2
             refine bodyPost_ret (results_ct rfl _ _ gb143 27 #[.int .i64 x142000_91, .int .i64 a2_1, .int .i64 x142002_91, .int .i64 (wrap64 (x142003_91 + 1)), .int .i64 x142004_91, .int .i64 a2_2, .int .i64 x142006_91, .string (x142007_91 ++ (strOfNums y155))] (0, 0) _ rfl (by (with_reducible repeat (first | refine blk_drewN ?_ _ | refine blk_drew ?_ | refine blk_alloc ?_ _)); refine blk_put (cs := #[.int .i64 x142000_91, .int .i64 a2_1, .int .i64 x142002_91, .int .i64 (wrap64 (x142003_91 + 1)), .int .i64 x142004_91, .int .i64 a2_2, .int .i64 x142006_91, .string x144007_62]) ?_ 7 _ rfl; (with_reducible repeat (first | refine blk_drewN ?_ _ | refine blk_drew ?_ | refine blk_alloc ?_ _)); refine blk_put (cs := #[.int .i64 x142000_91, .int .i64 a2_1, .int .i64 x142002_91, .int .i64 (wrap64 (x142003_91 + 1)), .int .i64 x142004_91, .int .i64 a2_2, .int .i64 x144006_62, .string x144007_62]) ?_ 6 _ rfl; (with_reducible repeat (first | refine blk_drewN ?_ _ | refine blk_drew ?_ | refine blk_alloc ?_ _)); refine blk_put (cs := #[.int .i64 x142000_91, .int .i64 a2_1, .int .i64 x142002_91, .int .i64 (wrap64 (x142003_91 + 1)), .int .i64 x142004_91, .int .i64 x144005_62, .int .i64 x144006_62, .string x144007_62]) ?_ 5 _ rfl; (with_reducible repeat (first | refine blk_drewN ?_ _ | refine blk_drew ?_ | refine blk_alloc ?_ _)); refine blk_put (cs := #[.int .i64 x142000_91, .int .i64 a2_1, .int .i64 x142002_91, .int .i64 (wrap64 (x142003_91 + 1)), .int .i64 x144004_62, .int .i64 x144005_62, .int .i64 x144006_62, .string x144007_62]) ?_ 4 _ rfl; (with_reducible repeat (first | refine blk_drewN ?_ _ | refine blk_drew ?_ | refine blk_alloc ?_ _)); refine blk_put (cs := #[.int .i64 x142000_91, .int .i64 a2_1, .int .i64 x142002_91, .int .i64 x144003_62, .int .i64 x144004_62, .int .i64 x144005_62, .int .i64 x144006_62, .string x144007_62]) ?_ 3 _ rfl; (with_reducible repeat (first | refine blk_drewN ?_ _ | refine blk_drew ?_ | refine blk_alloc ?_ _)); refine blk_put (cs := #[.int .i64 x142000_91, .int .i64 a2_1, .int .i64 x144002_62, .int .i64 x144003_62, .int .i64 x144004_62, .int .i64 x144005_62, .int .i64 x144006_62, .string x144007_62]) ?_ 2 _ rfl; (with_reducible repeat (first | refine blk_drewN ?_ _ | refine blk_drew ?_ | refine blk_alloc ?_ _)); refine blk_put (cs := #[.int .i64 x142000_91, .int .i64 x144001_62, .int .i64 x144002_62, .int .i64 x144003_62, .int .i64 x144004_62, .int .i64 x144005_62, .int .i64 x144006_62, .string x144007_62]) ?_ 1 _ rfl; (with_reducible repeat (first | refine blk_drewN ?_ _ | refine blk_drew ?_ | refine blk_alloc ?_ _)); refine blk_put (cs := #[.int .i64 x144000_62, .int .i64 x144001_62, .int .i64 x144002_62, .int .i64 x144003_62, .int .i64 x144004_62, .int .i64 x144005_62, .int .i64 x144006_62, .string x144007_62]) ?_ 0 _ rfl; (with_reducible repeat (first | refine blk_drewN ?_ _ | refine blk_drew ?_ | refine blk_alloc ?_ _)); refine blk_far ?_ NB143_141.out _; (with_reducible repeat (first | refine blk_drewN ?_ _ | refine blk_drew ?_ | refine blk_alloc ?_ _)); refine blk_far ?_ NB143_141.out _; (with_reducible repeat (first | refine blk_drewN ?_ _ | refine blk_drew ?_ | refine blk_alloc ?_ _)); exact BK143.out) Tryd.underlying27 rfl (by kernel_rfl)) rfl ?_
             exact ⟨_, by first | rfl | (simp [errW_none, errW_some] <;> rfl) | (simp [*, errW_none, errW_some] <;> rfl), by (with_reducible repeat (first | apply Kd.R_alloc | apply Kd.R_drewN | apply Kd.R_drew)); exact Kd.R_mono (Kd.R_far (p := ⟨gb143, 7, none⟩) (Kd.R_far (p := ⟨gb143, 6, none⟩) (Kd.R_far (p := ⟨gb143, 5, none⟩) (Kd.R_far (p := ⟨gb143, 4, none⟩) (Kd.R_far (p := ⟨gb143, 3, none⟩) (Kd.R_far (p := ⟨gb143, 2, none⟩) (Kd.R_far (p := ⟨gb143, 1, none⟩) (Kd.R_far (p := ⟨gb143, 0, none⟩) (Kd.R_far (p := ⟨gb141, 5, none⟩) (Kd.R_far (p := ⟨gb141, 1, none⟩) (Kd.R_types (Kd.R_types HO_8.out BK141.out (by decide)) BK143.out (by decide)) (fun _ hk => hk.1.2) (.int .i64 a2_1)) (fun _ hk => hk.1.2) (.int .i64 a2_2)) (fun _ hk => hk.2) (.int .i64 x142000_91)) (fun _ hk => hk.2) (.int .i64 a2_1)) (fun _ hk => hk.2) (.int .i64 x142002_91)) (fun _ hk => hk.2) (.int .i64 (wrap64 (x142003_91 + 1)))) (fun _ hk => hk.2) (.int .i64 x142004_91)) (fun _ hk => hk.2) (.int .i64 a2_2)) (fun _ hk => hk.2) (.int .i64 x142006_91)) (fun _ hk => hk.2) (.string (x142007_91 ++ (strOfNums y155)))) (fun _ hk => trivial), by repeat (first | (with_reducible first | exact HB.out | apply below_alloc | apply pw_below_drewN | apply below_drew1 | refine below_set ?_ GE140.out | refine below_set ?_ GE141.out | refine below_set ?_ GE142.out | refine below_set ?_ GE143.out) | exact HB.out)⟩
            ·rw [if_neg c137] at H
             exact absurd H (by simp)
           ·rw [if_neg c136] at H
            have c136b0 : decide ((x142007_91.size : Int) < 4100) = false := decide_eq_false c136
            have c136b1 : decide (x142007_91.size < 4100) = false := decide_eq_false (by omega)
            clear c136
            simp only [Option.some.injEq, Prod.mk.injEq] at H
            obtain ⟨rfl, rfl, rfl, rfl, rfl, rfl, rfl, rfl, rfl⟩ := H
            have hnb156 := NB141_140.out
            have hnc156 := NB140_141.out
            have hnb157 := NB141_142.out
            have hnc157 := NB142_141.out
            have hnb158 := NB141_143.out
            have hnc158 := NB143_141.out
            have hcz159_0 : wc.cell? ⟨gb141, 0, none⟩ = some (.int .i64 x142000_91) := (blk_cell BK141.out 0).trans rfl
            have hcz159_1 : wc.cell? ⟨gb141, 1, none⟩ = some (.int .i64 x142001_91) := (blk_cell BK141.out 1).trans rfl
            have hcz159_2 : wc.cell? ⟨gb141, 2, none⟩ = some (.int .i64 x142002_91) := (blk_cell BK141.out 2).trans rfl
            have hcz159_3 : wc.cell? ⟨gb141, 3, none⟩ = some (.int .i64 x142003_91) := (blk_cell BK141.out 3).trans rfl
            have hcz159_4 : wc.cell? ⟨gb141, 4, none⟩ = some (.int .i64 x142004_91) := (blk_cell BK141.out 4).trans rfl
            have hcz159_5 : wc.cell? ⟨gb141, 5, none⟩ = some (.int .i64 x142005_91) := (blk_cell BK141.out 5).trans rfl
            have hcz159_6 : wc.cell? ⟨gb141, 6, none⟩ = some (.int .i64 x142006_91) := (blk_cell BK141.out 6).trans rfl
            have hcz159_7 : wc.cell? ⟨gb141, 7, none⟩ = some (.string x142007_91) := (blk_cell BK141.out 7).trans rfl
            have hfz159_0 := blk_frozen BK141.out 0
            have hfz159_1 := blk_frozen BK141.out 1
            have hfz159_2 := blk_frozen BK141.out 2
            have hfz159_3 := blk_frozen BK141.out 3
            have hfz159_4 := blk_frozen BK141.out 4
            have hfz159_5 := blk_frozen BK141.out 5
            have hfz159_6 := blk_frozen BK141.out 6
            have hfz159_7 := blk_frozen BK141.out 7
            try go_wp2
            have n0_ : Aside0 (Kd.R k32 32 (wc.setCell ⟨gb141, 3, none⟩ (.int .i64 (wrap64 (x142003_91 + 1)))) w.heap.size (fun k_ => k_ ≠ gb142) u8 x8_91) := ⟨by (with_reducible repeat (first | apply Kd.R_alloc | apply Kd.R_drewN | apply Kd.R_drew)); exact Kd.R_mono (Kd.R_far (p := ⟨gb141, 3, none⟩) (Kd.R_types HO_8.out BK141.out (by decide)) (fun _ hk => hk.2) (.int .i64 (wrap64 (x142003_91 + 1)))) (fun _ hk => hk.1)⟩
            have n1_ : Aside0 ((wc.setCell ⟨gb141, 3, none⟩ (.int .i64 (wrap64 (x142003_91 + 1)))).heap[gb140]? = some (.cells #[.int .i64 a0_0] 23 (0, 0))) := ⟨by (with_reducible repeat (first | refine blk_drewN ?_ _ | refine blk_drew ?_ | refine blk_alloc ?_ _)); refine blk_far ?_ NB140_141.out _; (with_reducible repeat (first | refine blk_drewN ?_ _ | refine blk_drew ?_ | refine blk_alloc ?_ _)); exact BK140.out⟩
            have n2_ : Aside0 ((wc.setCell ⟨gb141, 3, none⟩ (.int .i64 (wrap64 (x142003_91 + 1)))).heap[gb141]? = some (.cells #[.int .i64 x142000_91, .int .i64 x142001_91, .int .i64 x142002_91, .int .i64 (wrap64 (x142003_91 + 1)), .int .i64 x142004_91, .int .i64 x142005_91, .int .i64 x142006_91, .string x142007_91] 27 (0, 0))) := ⟨by (with_reducible repeat (first | refine blk_drewN ?_ _ | refine blk_drew ?_ | refine blk_alloc ?_ _)); refine blk_put (cs := #[.int .i64 x142000_91, .int .i64 x142001_91, .int .i64 x142002_91, .int .i64 x142003_91, .int .i64 x142004_91, .int .i64 x142005_91, .int .i64 x142006_91, .string x142007_91]) ?_ 3 _ rfl; (with_reducible repeat (first | refine blk_drewN ?_ _ | refine blk_drew ?_ | refine blk_alloc ?_ _)); exact BK141.out⟩
            have n3_ : Aside0 ((wc.setCell ⟨gb141, 3, none⟩ (.int .i64 (wrap64 (x142003_91 + 1)))).heap[gb142]? = some (.cells #[.int .i64 a2_0, .int .i64 a2_1, .int .i64 a2_2, .int .i64 a2_3, .int .i64 a2_4, .string a2_5, .int .i64 a2_6] 32 (0, 0))) := ⟨by (with_reducible repeat (first | refine blk_drewN ?_ _ | refine blk_drew ?_ | refine blk_alloc ?_ _)); refine blk_far ?_ NB142_141.out _; (with_reducible repeat (first | refine blk_drewN ?_ _ | refine blk_drew ?_ | refine blk_alloc ?_ _)); exact BK142.out⟩
            have n4_ : Aside0 ((wc.setCell ⟨gb141, 3, none⟩ (.int .i64 (wrap64 (x142003_91 + 1)))).heap[gb143]? = some (.cells #[.int .i64 x144000_62, .int .i64 x144001_62, .int .i64 x144002_62, .int .i64 x144003_62, .int .i64 x144004_62, .int .i64 x144005_62, .int .i64 x144006_62, .string x144007_62] 27 (0, 0))) := ⟨by (with_reducible repeat (first | refine blk_drewN ?_ _ | refine blk_drew ?_ | refine blk_alloc ?_ _)); refine blk_far ?_ NB143_141.out _; (with_reducible repeat (first | refine blk_drewN ?_ _ | refine blk_drew ?_ | refine blk_alloc ?_ _)); exact BK143.out⟩
            have n5_ : Aside0 (Below w.heap.size w (wc.setCell ⟨gb141, 3, none⟩ (.int .i64 (wrap64 (x142003_91 + 1))))) := ⟨by repeat (first | (with_reducible first | exact HB.out | apply below_alloc | apply pw_below_drewN | apply below_drew1 | refine below_set ?_ GE140.out | refine below_set ?_ GE141.out | refine below_set ?_ GE142.out | refine below_set ?_ GE143.out) | exact HB.out)⟩
            (try clear HO_8)
            (try clear BK140)
            (try clear BK141)
            (try clear BK142)
            (try clear BK143)
            (try clear HB)
            generalize (wc.setCell ⟨gb141, 3, none⟩ (.int .i64 (wrap64 (x142003_91 + 1)))) = w160 at n0_ n1_ n2_ n3_ n4_ n5_ ⊢
            have HO_8 := n0_
            have BK140 := n1_
            have BK141 := n2_
            have BK142 := n3_
            have BK143 := n4_
            have HB := n5_
            clear n0_ n1_ n2_ n3_ n4_ n5_
            have n0_ := Aside0.mk (Kd.R_drew HO_8.out)
            have n1_ := Aside0.mk (blk_drew BK140.out)
            have n2_ := Aside0.mk (blk_drew BK141.out)
            have n3_ := Aside0.mk (blk_drew BK142.out)
            have n4_ := Aside0.mk (blk_drew BK143.out)
            have n5_ := Aside0.mk (below_drew1 HB.out)
            clear HO_8
            clear BK140
            clear BK141
            clear BK142
            clear BK143
            clear HB
            have HO_8 := n0_
            have BK140 := n1_
            have BK141 := n2_
            have BK142 := n3_
            have BK143 := n4_
            have HB := n5_
            clear n0_ n1_ n2_ n3_ n4_ n5_
            refine start_ (n := 8) (S := fun w' => w'.cell? ⟨gb142, 0, none⟩ = some (.int .i64 a2_0) ∧ w'.cell? ⟨gb142, 1, none⟩ = some (.int .i64 a2_1) ∧ w'.cell? ⟨gb142, 2, none⟩ = some (.int .i64 a2_2) ∧ w'.cell? ⟨gb142, 3, none⟩ = some (.int .i64 a2_3) ∧ w'.cell? ⟨gb142, 4, none⟩ = some (.int .i64 a2_4) ∧ w'.cell? ⟨gb142, 5, none⟩ = some (.string a2_5) ∧ w'.cell? ⟨gb142, 6, none⟩ = some (.int .i64 a2_6)) (ds := []) #[false, false, false, false, false, false, false, false] (by kernel_rfl) rfl rfl ⟨(blk_cell BK142.out 0).trans rfl, (blk_cell BK142.out 1).trans rfl, (blk_cell BK142.out 2).trans rfl, (blk_cell BK142.out 3).trans rfl, (blk_cell BK142.out 4).trans rfl, (blk_cell BK142.out 5).trans rfl, (blk_cell BK142.out 6).trans rfl⟩ (fun hHeld => ?_); refine with_tabW modbus_Step.tab16 modbus_Step.bits16 (fun HT_ HW_ => ?_)
            generalize w160.drew = w161 at HO_8 BK140 BK141 BK142 BK143 HB hHeld ⊢
            refine pstep 0 (some 96) #[true, false, false, false, false, false, false, false] HT_.out ?_
            refine pstep 2 (some 98) #[true, false, true, false, false, false, false, false] HT_.out ?_
            refine take_ (i := 1) (N := some 97) (v := ?_) (a' := ?_) #[true, true, true, false, false, false, false, false] rfl rfl (take_ofW HT_.out HW_.out (by kernel_rfl)) (fun _ _ _ h => h) (Or.inl ⟨by rfl, ?_⟩) hHeld ?_ ?_
            rotate_left
            ·rintro w' ⟨s0, s1, s2, s3, s4, s5, s6⟩
             go_simp
             with_reducible rfl
            rotate_left
            ·simp only [Act.put, nrm]
             rfl
            refine pstep 4 (some 100) #[true, true, true, false, true, false, false, false] HT_.out ?_
            refine take_ (i := 3) (N := some 99) (v := ?_) (a' := ?_) #[true, true, true, true, true, false, false, false] rfl rfl (take_ofW HT_.out HW_.out (by kernel_rfl)) (fun _ _ _ h => h) (Or.inl ⟨by rfl, ?_⟩) hHeld ?_ ?_
            rotate_left
            ·rintro w' ⟨s0, s1, s2, s3, s4, s5, s6⟩
             go_simp
             with_reducible rfl
            rotate_left
            ·simp only [Act.put, nrm]
             rfl
            refine one_ (i := 5) (N := none) #[true, true, true, true, true, true, false, false] rfl rfl (one_of HT_.out (by kernel_rfl)) (by decide) (fun K hK => ?_)
            have hs162 : w161.cell? ⟨gb141, 1, none⟩ = some (.int .i64 x142001_91) := (blk_cell BK141.out 1).trans rfl
            have hfs162 := blk_frozen BK141.out 1
            have hns162_0 := NB140_141.out
            have hns162_2 := NB142_141.out
            have hns162_3 := NB143_141.out
            have hms162_0 := NB141_140.out
            have hms162_2 := NB141_142.out
            have hms162_3 := NB141_143.out
            refine skip_ (w1 := ?_) (by rfl) rfl ?_ ?_
            rotate_left
            ·go_simp
             rfl
            refine hK.out _ _ ⟨((cell_far (p := ⟨gb141, _, none⟩) NB142_141.out _).trans (hHeld.1)), ((cell_far (p := ⟨gb141, _, none⟩) NB142_141.out _).trans (hHeld.2.1)), ((cell_far (p := ⟨gb141, _, none⟩) NB142_141.out _).trans (hHeld.2.2.1)), ((cell_far (p := ⟨gb141, _, none⟩) NB142_141.out _).trans (hHeld.2.2.2.1)), ((cell_far (p := ⟨gb141, _, none⟩) NB142_141.out _).trans (hHeld.2.2.2.2.1)), ((cell_far (p := ⟨gb141, _, none⟩) NB142_141.out _).trans (hHeld.2.2.2.2.2.1)), ((cell_far (p := ⟨gb141, _, none⟩) NB142_141.out _).trans (hHeld.2.2.2.2.2.2))⟩ (fun hHeld => ?_)
            clear hK K
            refine pstep 6 (some 101) #[true, true, true, true, true, true, true, false] HT_.out ?_
            refine one_ (i := 7) (N := none) #[true, true, true, true, true, true, true, true] rfl rfl (one_of HT_.out (by kernel_rfl)) (by decide) (fun K hK => ?_)
            have hs163 : w161.cell? ⟨gb141, 5, none⟩ = some (.int .i64 x142005_91) := (blk_cell BK141.out 5).trans rfl
            have hfs163 := blk_frozen BK141.out 5
            have hns163_0 := NB140_141.out
            have hns163_2 := NB142_141.out
            have hns163_3 := NB143_141.out
            have hms163_0 := NB141_140.out
            have hms163_2 := NB141_142.out
            have hms163_3 := NB141_143.out
            refine skip_ (w1 := ?_) (by rfl) rfl ?_ ?_
            rotate_left
            ·go_simp
             rfl
            refine hK.out _ _ ⟨((cell_far (p := ⟨gb141, _, none⟩) NB142_141.out _).trans (hHeld.1)), ((cell_far (p := ⟨gb141, _, none⟩) NB142_141.out _).trans (hHeld.2.1)), ((cell_far (p := ⟨gb141, _, none⟩) NB142_141.out _).trans (hHeld.2.2.1)), ((cell_far (p := ⟨gb141, _, none⟩) NB142_141.out _).trans (hHeld.2.2.2.1)), ((cell_far (p := ⟨gb141, _, none⟩) NB142_141.out _).trans (hHeld.2.2.2.2.1)), ((cell_far (p := ⟨gb141, _, none⟩) NB142_141.out _).trans (hHeld.2.2.2.2.2.1)), ((cell_far (p := ⟨gb141, _, none⟩) NB142_141.out _).trans (hHeld.2.2.2.2.2.2))⟩ (fun hHeld => ?_)
            clear hK K
            refine done_ (done_of HT_.out (by kernel_rfl)) ?_
            have hcz164_0 : w161.cell? ⟨gb141, 0, none⟩ = some (.int .i64 x142000_91) := (blk_cell BK141.out 0).trans rfl
            have hcz164_1 : w161.cell? ⟨gb141, 1, none⟩ = some (.int .i64 x142001_91) := (blk_cell BK141.out 1).trans rfl
            have hcz164_2 : w161.cell? ⟨gb141, 2, none⟩ = some (.int .i64 x142002_91) := (blk_cell BK141.out 2).trans rfl
            have hcz164_3 : w161.cell? ⟨gb141, 3, none⟩ = some (.int .i64 (wrap64 (x142003_91 + 1))) := (blk_cell BK141.out 3).trans rfl
            have hcz164_4 : w161.cell? ⟨gb141, 4, none⟩ = some (.int .i64 x142004_91) := (blk_cell BK141.out 4).trans rfl
            have hcz164_5 : w161.cell? ⟨gb141, 5, none⟩ = some (.int .i64 x142005_91) := (blk_cell BK141.out 5).trans rfl
            have hcz164_6 : w161.cell? ⟨gb141, 6, none⟩ = some (.int .i64 x142006_91) := (blk_cell BK141.out 6).trans rfl
            have hcz164_7 : w161.cell? ⟨gb141, 7, none⟩ = some (.string x142007_91) := (blk_cell BK141.out 7).trans rfl
            have hfz164_0 := blk_frozen BK141.out 0
            have hfz164_1 := blk_frozen BK141.out 1
            have hfz164_2 := blk_frozen BK141.out 2
            have hfz164_3 := blk_frozen BK141.out 3
            have hfz164_4 := blk_frozen BK141.out 4
            have hfz164_5 := blk_frozen BK141.out 5
            have hfz164_6 := blk_frozen BK141.out 6
            have hfz164_7 := blk_frozen BK141.out 7
            have hnb165 := NB143_140.out
            have hnc165 := NB140_143.out
            have hnb166 := NB143_142.out
            have hnc166 := NB142_143.out
            have hcz167_0 : w161.cell? ⟨gb143, 0, none⟩ = some (.int .i64 x144000_62) := (blk_cell BK143.out 0).trans rfl
            have hcz167_1 : w161.cell? ⟨gb143, 1, none⟩ = some (.int .i64 x144001_62) := (blk_cell BK143.out 1).trans rfl
            have hcz167_2 : w161.cell? ⟨gb143, 2, none⟩ = some (.int .i64 x144002_62) := (blk_cell BK143.out 2).trans rfl
            have hcz167_3 : w161.cell? ⟨gb143, 3, none⟩ = some (.int .i64 x144003_62) := (blk_cell BK143.out 3).trans rfl
            have hcz167_4 : w161.cell? ⟨gb143, 4, none⟩ = some (.int .i64 x144004_62) := (blk_cell BK143.out 4).trans rfl
            have hcz167_5 : w161.cell? ⟨gb143, 5, none⟩ = some (.int .i64 x144005_62) := (blk_cell BK143.out 5).trans rfl
            have hcz167_6 : w161.cell? ⟨gb143, 6, none⟩ = some (.int .i64 x144006_62) := (blk_cell BK143.out 6).trans rfl
            have hcz167_7 : w161.cell? ⟨gb143, 7, none⟩ = some (.string x144007_62) := (blk_cell BK143.out 7).trans rfl
            have hfz167_0 := blk_frozen BK143.out 0
            have hfz167_1 := blk_frozen BK143.out 1
            have hfz167_2 := blk_frozen BK143.out 2
            have hfz167_3 := blk_frozen BK143.out 3
            have hfz167_4 := blk_frozen BK143.out 4
            have hfz167_5 := blk_frozen BK143.out 5
            have hfz167_6 := blk_frozen BK143.out 6
            have hfz167_7 := blk_frozen BK143.out 7
            try go_wp2
            refine bodyPost_ret (results_ct rfl _ _ gb143 27 #[.int .i64 x142000_91, .int .i64 a2_1, .int .i64 x142002_91, .int .i64 (wrap64 (x142003_91 + 1)), .int .i64 x142004_91, .int .i64 a2_2, .int .i64 x142006_91, .string x142007_91] (0, 0) _ rfl (by (with_reducible repeat (first | refine blk_drewN ?_ _ | refine blk_drew ?_ | refine blk_alloc ?_ _)); refine blk_put (cs := #[.int .i64 x142000_91, .int .i64 a2_1, .int .i64 x142002_91, .int .i64 (wrap64 (x142003_91 + 1)), .int .i64 x142004_91, .int .i64 a2_2, .int .i64 x142006_91, .string x144007_62]) ?_ 7 _ rfl; (with_reducible repeat (first | refine blk_drewN ?_ _ | refine blk_drew ?_ | refine blk_alloc ?_ _)); refine blk_put (cs := #[.int .i64 x142000_91, .int .i64 a2_1, .int .i64 x142002_91, .int .i64 (wrap64 (x142003_91 + 1)), .int .i64 x142004_91, .int .i64 a2_2, .int .i64 x144006_62, .string x144007_62]) ?_ 6 _ rfl; (with_reducible repeat (first | refine blk_drewN ?_ _ | refine blk_drew ?_ | refine blk_alloc ?_ _)); refine blk_put (cs := #[.int .i64 x142000_91, .int .i64 a2_1, .int .i64 x142002_91, .int .i64 (wrap64 (x142003_91 + 1)), .int .i64 x142004_91, .int .i64 x144005_62, .int .i64 x144006_62, .string x144007_62]) ?_ 5 _ rfl; (with_reducible repeat (first | refine blk_drewN ?_ _ | refine blk_drew ?_ | refine blk_alloc ?_ _)); refine blk_put (cs := #[.int .i64 x142000_91, .int .i64 a2_1, .int .i64 x142002_91, .int .i64 (wrap64 (x142003_91 + 1)), .int .i64 x144004_62, .int .i64 x144005_62, .int .i64 x144006_62, .string x144007_62]) ?_ 4 _ rfl; (with_reducible repeat (first | refine blk_drewN ?_ _ | refine blk_drew ?_ | refine blk_alloc ?_ _)); refine blk_put (cs := #[.int .i64 x142000_91, .int .i64 a2_1, .int .i64 x142002_91, .int .i64 x144003_62, .int .i64 x144004_62, .int .i64 x144005_62, .int .i64 x144006_62, .string x144007_62]) ?_ 3 _ rfl; (with_reducible repeat (first | refine blk_drewN ?_ _ | refine blk_drew ?_ | refine blk_alloc ?_ _)); refine blk_put (cs := #[.int .i64 x142000_91, .int .i64 a2_1, .int .i64 x144002_62, .int .i64 x144003_62, .int .i64 x144004_62, .int .i64 x144005_62, .int .i64 x144006_62, .string x144007_62]) ?_ 2 _ rfl; (with_reducible repeat (first | refine blk_drewN ?_ _ | refine blk_drew ?_ | refine blk_alloc ?_ _)); refine blk_put (cs := #[.int .i64 x142000_91, .int .i64 x144001_62, .int .i64 x144002_62, .int .i64 x144003_62, .int .i64 x144004_62, .int .i64 x144005_62, .int .i64 x144006_62, .string x144007_62]) ?_ 1 _ rfl; (with_reducible repeat (first | refine blk_drewN ?_ _ | refine blk_drew ?_ | refine blk_alloc ?_ _)); refine blk_put (cs := #[.int .i64 x144000_62, .int .i64 x144001_62, .int .i64 x144002_62, .int .i64 x144003_62, .int .i64 x144004_62, .int .i64 x144005_62, .int .i64 x144006_62, .string x144007_62]) ?_ 0 _ rfl; (with_reducible repeat (first | refine blk_drewN ?_ _ | refine blk_drew ?_ | refine blk_alloc ?_ _)); refine blk_far ?_ NB143_141.out _; (with_reducible repeat (first | refine blk_drewN ?_ _ | refine blk_drew ?_ | refine blk_alloc ?_ _)); refine blk_far ?_ NB143_141.out _; (with_reducible repeat (first | refine blk_drewN ?_ _ | refine blk_drew ?_ | refine blk_alloc ?_ _)); exact BK143.out) Tryd.underlying27 rfl (by kernel_rfl)) rfl ?_
            exact ⟨_, by first | rfl | (simp [errW_none, errW_some] <;> rfl) | (simp [*, errW_none, errW_some] <;> rfl), by (with_reducible repeat (first | apply Kd.R_alloc | apply Kd.R_drewN | apply Kd.R_drew)); exact Kd.R_mono (Kd.R_far (p := ⟨gb143, 7, none⟩) (Kd.R_far (p := ⟨gb143, 6, none⟩) (Kd.R_far (p := ⟨gb143, 5, none⟩) (Kd.R_far (p := ⟨gb143, 4, none⟩) (Kd.R_far (p := ⟨gb143, 3, none⟩) (Kd.R_far (p := ⟨gb143, 2, none⟩) (Kd.R_far (p := ⟨gb143, 1, none⟩) (Kd.R_far (p := ⟨gb143, 0, none⟩) (Kd.R_far (p := ⟨gb141, 5, none⟩) (Kd.R_far (p := ⟨gb141, 1, none⟩) (Kd.R_types (Kd.R_types HO_8.out BK141.out (by decide)) BK143.out (by decide)) (fun _ hk => hk.1.2) (.int .i64 a2_1)) (fun _ hk => hk.1.2) (.int .i64 a2_2)) (fun _ hk => hk.2) (.int .i64 x142000_91)) (fun _ hk => hk.2) (.int .i64 a2_1)) (fun _ hk => hk.2) (.int .i64 x142002_91)) (fun _ hk => hk.2) (.int .i64 (wrap64 (x142003_91 + 1)))) (fun _ hk => hk.2) (.int .i64 x142004_91)) (fun _ hk => hk.2) (.int .i64 a2_2)) (fun _ hk => hk.2) (.int .i64 x142006_91)) (fun _ hk => hk.2) (.string x142007_91)) (fun _ hk => trivial), by repeat (first | (with_reducible first | exact HB.out | apply below_alloc | apply pw_below_drewN | apply below_drew1 | refine below_set ?_ GE140.out | refine below_set ?_ GE141.out | refine below_set ?_ GE142.out | refine below_set ?_ GE143.out) | exact HB.out)⟩
     ·rw [if_neg c72] at H
      have c72b0 : (a2_6 == 0) = false := beq_eq_false_iff_ne.mpr c72
      have c72b1 : (a2_6 != 0) = true := bne_iff_ne.mpr c72
      by_cases c168 : a1_3 > 0
      ·rw [if_pos c168] at H
       have c168b0 : decide (0 < a1_3) = true := decide_eq_true c168
       clear c168
       obtain ⟨ji169, hji169⟩ : ∃ j_ : Int, (mx a1_2 a2_1) = j_ := ⟨_, rfl⟩
       replace H : (if ([] : List (S32)).length < 2199023255552 then (some (0, a2_1, 0, 0, 0, 0, 0, (⟨#[]⟩ : ByteArray), (([] : List (S32)) ++ [(⟨5, a1_2, ji169, 0, 0, (⟨#[]⟩ : ByteArray), 7⟩ : S32)]))) else (none)) = some (r1, r2, r3, r4, r5, r6, r7, r8, r9) := by first | (rw [hji169] at H; exact H) | (simp only [hji169] at H ⊢; exact H)
       have hji169_ : (if a1_2 < a2_1 then a2_1 else a1_2) = ji169 := hji169
       by_cases c170 : ([] : List (S32)).length < 2199023255552
       ·rw [if_pos c170] at H
        have LMc170 := Aside0.mk c170
        clear c170
        obtain ⟨y146, hy146⟩ : ∃ y_ : List (S32), y_ = (([] : List (S32)) ++ [(⟨5, a1_2, ji169, 0, 0, (⟨#[]⟩ : ByteArray), 7⟩ : S32)]) := ⟨_, rfl⟩
        replace H : (some (0, a2_1, 0, 0, 0, 0, 0, (⟨#[]⟩ : ByteArray), y146)) = some (r1, r2, r3, r4, r5, r6, r7, r8, r9) := by first | (rw [hy146]; with_reducible exact H) | (have H2_ := (Option.bind_some _ _).symm.trans H; rw [hy146]; with_reducible exact H2_) | (have H2_ := (Option.bind_some _ _).symm.trans H; with_reducible exact H2_) | with_reducible exact H | (rw [hy146]; exact H) | exact H
        have Ny146 := Aside0.mk hy146
        clear hy146
        simp only [Option.some.injEq, Prod.mk.injEq] at H
        obtain ⟨rfl, rfl, rfl, rfl, rfl, rfl, rfl, rfl, rfl⟩ := H
        have hnb171 := NB142_140.out
        have hnc171 := NB140_142.out
        have hnb172 := NB142_141.out
        have hnc172 := NB141_142.out
        have hnb173 := NB142_143.out
        have hnc173 := NB143_142.out
        have hcz174_0 : wc.cell? ⟨gb142, 0, none⟩ = some (.int .i64 a2_0) := (blk_cell BK142.out 0).trans rfl
        have hcz174_1 : wc.cell? ⟨gb142, 1, none⟩ = some (.int .i64 a2_1) := (blk_cell BK142.out 1).trans rfl
        have hcz174_2 : wc.cell? ⟨gb142, 2, none⟩ = some (.int .i64 a2_2) := (blk_cell BK142.out 2).trans rfl
        have hcz174_3 : wc.cell? ⟨gb142, 3, none⟩ = some (.int .i64 a2_3) := (blk_cell BK142.out 3).trans rfl
        have hcz174_4 : wc.cell? ⟨gb142, 4, none⟩ = some (.int .i64 a2_4) := (blk_cell BK142.out 4).trans rfl
        have hcz174_5 : wc.cell? ⟨gb142, 5, none⟩ = some (.string a2_5) := (blk_cell BK142.out 5).trans rfl
        have hcz174_6 : wc.cell? ⟨gb142, 6, none⟩ = some (.int .i64 a2_6) := (blk_cell BK142.out 6).trans rfl
        have hfz174_0 := blk_frozen BK142.out 0
        have hfz174_1 := blk_frozen BK142.out 1
        have hfz174_2 := blk_frozen BK142.out 2
        have hfz174_3 := blk_frozen BK142.out 3
        have hfz174_4 := blk_frozen BK142.out 4
        have hfz174_5 := blk_frozen BK142.out 5
        have hfz174_6 := blk_frozen BK142.out 6
        have hnb175 := NB141_140.out
        have hnc175 := NB140_141.out
        have hnb176 := NB141_143.out
        have hnc176 := NB143_141.out
        have hcz177_0 : wc.cell? ⟨gb141, 0, none⟩ = some (.int .i64 a1_0) := (blk_cell BK141.out 0).trans rfl
        have hcz177_1 : wc.cell? ⟨gb141, 1, none⟩ = some (.int .i64 a1_1) := (blk_cell BK141.out 1).trans rfl
        have hcz177_2 : wc.cell? ⟨gb141, 2, none⟩ = some (.int .i64 a1_2) := (blk_cell BK141.out 2).trans rfl
        have hcz177_3 : wc.cell? ⟨gb141, 3, none⟩ = some (.int .i64 a1_3) := (blk_cell BK141.out 3).trans rfl
        have hcz177_4 : wc.cell? ⟨gb141, 4, none⟩ = some (.int .i64 a1_4) := (blk_cell BK141.out 4).trans rfl
        have hcz177_5 : wc.cell? ⟨gb141, 5, none⟩ = some (.int .i64 a1_5) := (blk_cell BK141.out 5).trans rfl
        have hcz177_6 : wc.cell? ⟨gb141, 6, none⟩ = some (.int .i64 a1_6) := (blk_cell BK141.out 6).trans rfl
        have hcz177_7 : wc.cell? ⟨gb141, 7, none⟩ = some (.string a1_7) := (blk_cell BK141.out 7).trans rfl
        have hfz177_0 := blk_frozen BK141.out 0
        have hfz177_1 := blk_frozen BK141.out 1
        have hfz177_2 := blk_frozen BK141.out 2
        have hfz177_3 := blk_frozen BK141.out 3
        have hfz177_4 := blk_frozen BK141.out 4
        have hfz177_5 := blk_frozen BK141.out 5
        have hfz177_6 := blk_frozen BK141.out 6
        have hfz177_7 := blk_frozen BK141.out 7
        go_wp2_with (first | ((with_reducible refine gate_builtin (b := .append) (xs := #[.tmp 42, .tmp 51]) rfl ?_); at_builtin; refine Kd.R_append k32 (w0 := w) w.heap.size rfl (.tmp 42) (.tmp 51) 24 32 (.agg #[(.int .i64 0), (.int .i64 0), (.int .i64 0), (.int .i64 0), (.int .i64 0), (.string ⟨#[]⟩), (.int .i64 0)]) 64 rfl Tryd.underlying24 info32 rfl (by decide) (by omega) (.slice none 0 0) ([] : List (S32)) (⟨5, a1_2, ji169, 0, 0, (⟨#[]⟩ : ByteArray), 7⟩ : S32) [.int .i64 5, .int .i64 a1_2, .int .i64 ji169, .int .i64 0, .int .i64 0, .string (⟨#[]⟩ : ByteArray), .int .i64 7] (fun k_ => k_ ≠ gb142) (fun _ => False) rfl rfl ?aP (fun _ hk => hk.elim) ?aF ?aO ?aB ?aS ?aL ?_; (case aP => exact k32_mkM _ _ _ (⟨5, a1_2, ji169, 0, 0, (⟨#[]⟩ : ByteArray), 7⟩ : S32)); (case aB => exact (hbw HB.out)); (case aF => exact (fun k_ hk => Kd.freshB (g := gb142) (o := .cells #[.int .i64 a2_0, .int .i64 a2_1, .int .i64 a2_2, .int .i64 a2_3, .int .i64 a2_4, .string a2_5, .int .i64 a2_6] 32 (0, 0)) (bkw BK142.out) k_ hk)); (case aO => exact ((Kd.R_nil _ _ _ _ (fun k_ => k_ ≠ gb142)))); (case aS => exact (below_size (hbw HB.out))); (case aL => have := LMc170.out; omega); intro v147 w178 ho hb hg hat; rw [← Ny146.out] at ho; have n0_ := Aside0.mk (blkg BK140.out hg (by simp [Value.ownBlock])); have n1_ := Aside0.mk (blkg BK141.out hg (by simp [Value.ownBlock])); have n2_ := Aside0.mk (blkg BK142.out hg (by simp [Value.ownBlock])); have n3_ := Aside0.mk (blkg BK143.out hg (by simp [Value.ownBlock])); have n4_ := Aside0.mk (hb); have n5_ := Aside0.mk (ho); clear BK140; clear BK141; clear BK142; clear BK143; clear HB; have BK140 := n0_; have BK141 := n1_; have BK142 := n2_; have BK143 := n3_; have HB := n4_; have HO148 := n5_; clear n0_ n1_ n2_ n3_ n4_ n5_; clear ho hb hg hat; have hcz179_0 : w178.cell? ⟨gb142, 0, none⟩ = some (.int .i64 a2_0) := (blk_cell BK142.out 0).trans rfl; have hcz179_1 : w178.cell? ⟨gb142, 1, none⟩ = some (.int .i64 a2_1) := (blk_cell BK142.out 1).trans rfl; have hcz179_2 : w178.cell? ⟨gb142, 2, none⟩ = some (.int .i64 a2_2) := (blk_cell BK142.out 2).trans rfl; have hcz179_3 : w178.cell? ⟨gb142, 3, none⟩ = some (.int .i64 a2_3) := (blk_cell BK142.out 3).trans rfl; have hcz179_4 : w178.cell? ⟨gb142, 4, none⟩ = some (.int .i64 a2_4) := (blk_cell BK142.out 4).trans rfl; have hcz179_5 : w178.cell? ⟨gb142, 5, none⟩ = some (.string a2_5) := (blk_cell BK142.out 5).trans rfl; have hcz179_6 : w178.cell? ⟨gb142, 6, none⟩ = some (.int .i64 a2_6) := (blk_cell BK142.out 6).trans rfl; have hfz179_0 := blk_frozen BK142.out 0; have hfz179_1 := blk_frozen BK142.out 1; have hfz179_2 := blk_frozen BK142.out 2; have hfz179_3 := blk_frozen BK142.out 3; have hfz179_4 := blk_frozen BK142.out 4; have hfz179_5 := blk_frozen BK142.out 5; have hfz179_6 := blk_frozen BK142.out 6; have hnb180 := NB143_140.out; have hnc180 := NB140_143.out; have hcz181_0 : w178.cell? ⟨gb143, 0, none⟩ = some (.int .i64 x144000_62) := (blk_cell BK143.out 0).trans rfl; have hcz181_1 : w178.cell? ⟨gb143, 1, none⟩ = some (.int .i64 x144001_62) := (blk_cell BK143.out 1).trans rfl; have hcz181_2 : w178.cell? ⟨gb143, 2, none⟩ = some (.int .i64 x144002_62) := (blk_cell BK143.out 2).trans rfl; have hcz181_3 : w178.cell? ⟨gb143, 3, none⟩ = some (.int .i64 x144003_62) := (blk_cell BK143.out 3).trans rfl; have hcz181_4 : w178.cell? ⟨gb143, 4, none⟩ = some (.int .i64 x144004_62) := (blk_cell BK143.out 4).trans rfl; have hcz181_5 : w178.cell? ⟨gb143, 5, none⟩ = some (.int .i64 x144005_62) := (blk_cell BK143.out 5).trans rfl; have hcz181_6 : w178.cell? ⟨gb143, 6, none⟩ = some (.int .i64 x144006_62) := (blk_cell BK143.out 6).trans rfl; have hcz181_7 : w178.cell? ⟨gb143, 7, none⟩ = some (.string x144007_62) := (blk_cell BK143.out 7).trans rfl; have hfz181_0 := blk_frozen BK143.out 0; have hfz181_1 := blk_frozen BK143.out 1; have hfz181_2 := blk_frozen BK143.out 2; have hfz181_3 := blk_frozen BK143.out 3; have hfz181_4 := blk_frozen BK143.out 4; have hfz181_5 := blk_frozen BK143.out 5; have hfz181_6 := blk_frozen BK143.out 6; have hfz181_7 := blk_frozen BK143.out 7))
        refine bodyPost_ret (results_ct rfl _ _ gb143 27 #[.int .i64 0, .int .i64 a2_1, .int .i64 0, .int .i64 0, .int .i64 0, .int .i64 0, .int .i64 0, .string (⟨#[]⟩ : ByteArray)] (0, 0) _ rfl (by (with_reducible repeat (first | refine blk_drewN ?_ _ | refine blk_drew ?_ | refine blk_alloc ?_ _)); refine blk_put (cs := #[.int .i64 0, .int .i64 a2_1, .int .i64 0, .int .i64 0, .int .i64 0, .int .i64 0, .int .i64 0, .string x144007_62]) ?_ 7 _ rfl; (with_reducible repeat (first | refine blk_drewN ?_ _ | refine blk_drew ?_ | refine blk_alloc ?_ _)); refine blk_put (cs := #[.int .i64 0, .int .i64 a2_1, .int .i64 0, .int .i64 0, .int .i64 0, .int .i64 0, .int .i64 x144006_62, .string x144007_62]) ?_ 6 _ rfl; (with_reducible repeat (first | refine blk_drewN ?_ _ | refine blk_drew ?_ | refine blk_alloc ?_ _)); refine blk_put (cs := #[.int .i64 0, .int .i64 a2_1, .int .i64 0, .int .i64 0, .int .i64 0, .int .i64 x144005_62, .int .i64 x144006_62, .string x144007_62]) ?_ 5 _ rfl; (with_reducible repeat (first | refine blk_drewN ?_ _ | refine blk_drew ?_ | refine blk_alloc ?_ _)); refine blk_put (cs := #[.int .i64 0, .int .i64 a2_1, .int .i64 0, .int .i64 0, .int .i64 x144004_62, .int .i64 x144005_62, .int .i64 x144006_62, .string x144007_62]) ?_ 4 _ rfl; (with_reducible repeat (first | refine blk_drewN ?_ _ | refine blk_drew ?_ | refine blk_alloc ?_ _)); refine blk_put (cs := #[.int .i64 0, .int .i64 a2_1, .int .i64 0, .int .i64 x144003_62, .int .i64 x144004_62, .int .i64 x144005_62, .int .i64 x144006_62, .string x144007_62]) ?_ 3 _ rfl; (with_reducible repeat (first | refine blk_drewN ?_ _ | refine blk_drew ?_ | refine blk_alloc ?_ _)); refine blk_put (cs := #[.int .i64 0, .int .i64 a2_1, .int .i64 x144002_62, .int .i64 x144003_62, .int .i64 x144004_62, .int .i64 x144005_62, .int .i64 x144006_62, .string x144007_62]) ?_ 2 _ rfl; (with_reducible repeat (first | refine blk_drewN ?_ _ | refine blk_drew ?_ | refine blk_alloc ?_ _)); refine blk_put (cs := #[.int .i64 0, .int .i64 x144001_62, .int .i64 x144002_62, .int .i64 x144003_62, .int .i64 x144004_62, .int .i64 x144005_62, .int .i64 x144006_62, .string x144007_62]) ?_ 1 _ rfl; (with_reducible repeat (first | refine blk_drewN ?_ _ | refine blk_drew ?_ | refine blk_alloc ?_ _)); refine blk_put (cs := #[.int .i64 x144000_62, .int .i64 x144001_62, .int .i64 x144002_62, .int .i64 x144003_62, .int .i64 x144004_62, .int .i64 x144005_62, .int .i64 x144006_62, .string x144007_62]) ?_ 0 _ rfl; (with_reducible repeat (first | refine blk_drewN ?_ _ | refine blk_drew ?_ | refine blk_alloc ?_ _)); exact BK143.out) Tryd.underlying27 rfl (by kernel_rfl)) rfl ?_
        exact ⟨_, by first | rfl | (simp [errW_none, errW_some] <;> rfl) | (simp only [← hji169]; first | rfl | (simp [errW_none, errW_some] <;> rfl)) | (simp [*, errW_none, errW_some] <;> rfl), by (with_reducible repeat (first | apply Kd.R_alloc | apply Kd.R_drewN | apply Kd.R_drew)); exact Kd.R_mono (Kd.R_far (p := ⟨gb143, 7, none⟩) (Kd.R_far (p := ⟨gb143, 6, none⟩) (Kd.R_far (p := ⟨gb143, 5, none⟩) (Kd.R_far (p := ⟨gb143, 4, none⟩) (Kd.R_far (p := ⟨gb143, 3, none⟩) (Kd.R_far (p := ⟨gb143, 2, none⟩) (Kd.R_far (p := ⟨gb143, 1, none⟩) (Kd.R_far (p := ⟨gb143, 0, none⟩) (Kd.R_types HO148.out BK143.out (by decide)) (fun _ hk => hk.2) (.int .i64 0)) (fun _ hk => hk.2) (.int .i64 a2_1)) (fun _ hk => hk.2) (.int .i64 0)) (fun _ hk => hk.2) (.int .i64 0)) (fun _ hk => hk.2) (.int .i64 0)) (fun _ hk => hk.2) (.int .i64 0)) (fun _ hk => hk.2) (.int .i64 0)) (fun _ hk => hk.2) (.string (⟨#[]⟩ : ByteArray))) (fun _ hk => trivial), by repeat (first | (with_reducible first | exact HB.out | apply below_alloc | apply pw_below_drewN | apply below_drew1 | refine below_set ?_ GE140.out | refine below_set ?_ GE141.out | refine below_set ?_ GE142.out | refine below_set ?_ GE143.out) | exact HB.out)⟩
       ·rw [if_neg c170] at H
        exact absurd H (by simp)
      ·rw [if_neg c168] at H
       have c168b0 : decide (0 < a1_3) = false := decide_eq_false c168
       clear c168
       simp only [Option.some.injEq, Prod.mk.injEq] at H
       obtain ⟨rfl, rfl, rfl, rfl, rfl, rfl, rfl, rfl, rfl⟩ := H
       have hnb182 := NB142_140.out
       have hnc182 := NB140_142.out
       have hnb183 := NB142_141.out
       have hnc183 := NB141_142.out
       have hnb184 := NB142_143.out
       have hnc184 := NB143_142.out
       have hcz185_0 : wc.cell? ⟨gb142, 0, none⟩ = some (.int .i64 a2_0) := (blk_cell BK142.out 0).trans rfl
       have hcz185_1 : wc.cell? ⟨gb142, 1, none⟩ = some (.int .i64 a2_1) := (blk_cell BK142.out 1).trans rfl
       have hcz185_2 : wc.cell? ⟨gb142, 2, none⟩ = some (.int .i64 a2_2) := (blk_cell BK142.out 2).trans rfl
       have hcz185_3 : wc.cell? ⟨gb142, 3, none⟩ = some (.int .i64 a2_3) := (blk_cell BK142.out 3).trans rfl
       have hcz185_4 : wc.cell? ⟨gb142, 4, none⟩ = some (.int .i64 a2_4) := (blk_cell BK142.out 4).trans rfl
       have hcz185_5 : wc.cell? ⟨gb142, 5, none⟩ = some (.string a2_5) := (blk_cell BK142.out 5).trans rfl
       have hcz185_6 : wc.cell? ⟨gb142, 6, none⟩ = some (.int .i64 a2_6) := (blk_cell BK142.out 6).trans rfl
       have hfz185_0 := blk_frozen BK142.out 0
       have hfz185_1 := blk_frozen BK142.out 1
       have hfz185_2 := blk_frozen BK142.out 2
       have hfz185_3 := blk_frozen BK142.out 3
       have hfz185_4 := blk_frozen BK142.out 4
       have hfz185_5 := blk_frozen BK142.out 5
       have hfz185_6 := blk_frozen BK142.out 6
       have hnb186 := NB141_140.out
       have hnc186 := NB140_141.out
       have hnb187 := NB141_143.out
       have hnc187 := NB143_141.out
       have hcz188_0 : wc.cell? ⟨gb141, 0, none⟩ = some (.int .i64 a1_0) := (blk_cell BK141.out 0).trans rfl
       have hcz188_1 : wc.cell? ⟨gb141, 1, none⟩ = some (.int .i64 a1_1) := (blk_cell BK141.out 1).trans rfl
       have hcz188_2 : wc.cell? ⟨gb141, 2, none⟩ = some (.int .i64 a1_2) := (blk_cell BK141.out 2).trans rfl
       have hcz188_3 : wc.cell? ⟨gb141, 3, none⟩ = some (.int .i64 a1_3) := (blk_cell BK141.out 3).trans rfl
       have hcz188_4 : wc.cell? ⟨gb141, 4, none⟩ = some (.int .i64 a1_4) := (blk_cell BK141.out 4).trans rfl
       have hcz188_5 : wc.cell? ⟨gb141, 5, none⟩ = some (.int .i64 a1_5) := (blk_cell BK141.out 5).trans rfl
       have hcz188_6 : wc.cell? ⟨gb141, 6, none⟩ = some (.int .i64 a1_6) := (blk_cell BK141.out 6).trans rfl
       have hcz188_7 : wc.cell? ⟨gb141, 7, none⟩ = some (.string a1_7) := (blk_cell BK141.out 7).trans rfl
       have hfz188_0 := blk_frozen BK141.out 0
       have hfz188_1 := blk_frozen BK141.out 1
       have hfz188_2 := blk_frozen BK141.out 2
       have hfz188_3 := blk_frozen BK141.out 3
       have hfz188_4 := blk_frozen BK141.out 4
       have hfz188_5 := blk_frozen BK141.out 5
       have hfz188_6 := blk_frozen BK141.out 6
       have hfz188_7 := blk_frozen BK141.out 7
       have hnb189 := NB143_140.out
       have hnc189 := NB140_143.out
       have hcz190_0 : wc.cell? ⟨gb143, 0, none⟩ = some (.int .i64 x144000_62) := (blk_cell BK143.out 0).trans rfl
       have hcz190_1 : wc.cell? ⟨gb143, 1, none⟩ = some (.int .i64 x144001_62) := (blk_cell BK143.out 1).trans rfl
       have hcz190_2 : wc.cell? ⟨gb143, 2, none⟩ = some (.int .i64 x144002_62) := (blk_cell BK143.out 2).trans rfl
       have hcz190_3 : wc.cell? ⟨gb143, 3, none⟩ = some (.int .i64 x144003_62) := (blk_cell BK143.out 3).trans rfl
       have hcz190_4 : wc.cell? ⟨gb143, 4, none⟩ = some (.int .i64 x144004_62) := (blk_cell BK143.out 4).trans rfl
       have hcz190_5 : wc.cell? ⟨gb143, 5, none⟩ = some (.int .i64 x144005_62) := (blk_cell BK143.out 5).trans rfl
       have hcz190_6 : wc.cell? ⟨gb143, 6, none⟩ = some (.int .i64 x144006_62) := (blk_cell BK143.out 6).trans rfl
       have hcz190_7 : wc.cell? ⟨gb143, 7, none⟩ = some (.string x144007_62) := (blk_cell BK143.out 7).trans rfl
       have hfz190_0 := blk_frozen BK143.out 0
       have hfz190_1 := blk_frozen BK143.out 1
       have hfz190_2 := blk_frozen BK143.out 2
       have hfz190_3 := blk_frozen BK143.out 3
       have hfz190_4 := blk_frozen BK143.out 4
       have hfz190_5 := blk_frozen BK143.out 5
       have hfz190_6 := blk_frozen BK143.out 6
       have hfz190_7 := blk_frozen BK143.out 7
       go_wp2
       refine bodyPost_ret (results_ct rfl _ _ gb143 27 #[.int .i64 0, .int .i64 a2_1, .int .i64 0, .int .i64 0, .int .i64 0, .int .i64 0, .int .i64 0, .string (⟨#[]⟩ : ByteArray)] (0, 0) _ rfl (by (with_reducible repeat (first | refine blk_drewN ?_ _ | refine blk_drew ?_ | refine blk_alloc ?_ _)); refine blk_put (cs := #[.int .i64 0, .int .i64 a2_1, .int .i64 0, .int .i64 0, .int .i64 0, .int .i64 0, .int .i64 0, .string x144007_62]) ?_ 7 _ rfl; (with_reducible repeat (first | refine blk_drewN ?_ _ | refine blk_drew ?_ | refine blk_alloc ?_ _)); refine blk_put (cs := #[.int .i64 0, .int .i64 a2_1, .int .i64 0, .int .i64 0, .int .i64 0, .int .i64 0, .int .i64 x144006_62, .string x144007_62]) ?_ 6 _ rfl; (with_reducible repeat (first | refine blk_drewN ?_ _ | refine blk_drew ?_ | refine blk_alloc ?_ _)); refine blk_put (cs := #[.int .i64 0, .int .i64 a2_1, .int .i64 0, .int .i64 0, .int .i64 0, .int .i64 x144005_62, .int .i64 x144006_62, .string x144007_62]) ?_ 5 _ rfl; (with_reducible repeat (first | refine blk_drewN ?_ _ | refine blk_drew ?_ | refine blk_alloc ?_ _)); refine blk_put (cs := #[.int .i64 0, .int .i64 a2_1, .int .i64 0, .int .i64 0, .int .i64 x144004_62, .int .i64 x144005_62, .int .i64 x144006_62, .string x144007_62]) ?_ 4 _ rfl; (with_reducible repeat (first | refine blk_drewN ?_ _ | refine blk_drew ?_ | refine blk_alloc ?_ _)); refine blk_put (cs := #[.int .i64 0, .int .i64 a2_1, .int .i64 0, .int .i64 x144003_62, .int .i64 x144004_62, .int .i64 x144005_62, .int .i64 x144006_62, .string x144007_62]) ?_ 3 _ rfl; (with_reducible repeat (first | refine blk_drewN ?_ _ | refine blk_drew ?_ | refine blk_alloc ?_ _)); refine blk_put (cs := #[.int .i64 0, .int .i64 a2_1, .int .i64 x144002_62, .int .i64 x144003_62, .int .i64 x144004_62, .int .i64 x144005_62, .int .i64 x144006_62, .string x144007_62]) ?_ 2 _ rfl; (with_reducible repeat (first | refine blk_drewN ?_ _ | refine blk_drew ?_ | refine blk_alloc ?_ _)); refine blk_put (cs := #[.int .i64 0, .int .i64 x144001_62, .int .i64 x144002_62, .int .i64 x144003_62, .int .i64 x144004_62, .int .i64 x144005_62, .int .i64 x144006_62, .string x144007_62]) ?_ 1 _ rfl; (with_reducible repeat (first | refine blk_drewN ?_ _ | refine blk_drew ?_ | refine blk_alloc ?_ _)); refine blk_put (cs := #[.int .i64 x144000_62, .int .i64 x144001_62, .int .i64 x144002_62, .int .i64 x144003_62, .int .i64 x144004_62, .int .i64 x144005_62, .int .i64 x144006_62, .string x144007_62]) ?_ 0 _ rfl; (with_reducible repeat (first | refine blk_drewN ?_ _ | refine blk_drew ?_ | refine blk_alloc ?_ _)); exact BK143.out) Tryd.underlying27 rfl (by kernel_rfl)) rfl ?_
       exact ⟨_, by first | rfl | (simp [errW_none, errW_some] <;> rfl) | (simp [*, errW_none, errW_some] <;> rfl), by first | exact Kd.R_nil _ _ _ _ _ | exact Kd.N_nil _ _ _ _ _ | exact Kd.V_nil _ _ _ _ _ | exact Kd.Q_nil _ _ _ _ _ | exact Kd.S_nil _ _ _ _ _, by repeat (first | (with_reducible first | exact HB.out | apply below_alloc | apply pw_below_drewN | apply below_drew1 | refine below_set ?_ GE140.out | refine below_set ?_ GE141.out | refine below_set ?_ GE142.out | refine below_set ?_ GE143.out) | exact HB.out)⟩

end Go.Proofs.YtmalhgidhieamaaDoor.PModbusGaps
