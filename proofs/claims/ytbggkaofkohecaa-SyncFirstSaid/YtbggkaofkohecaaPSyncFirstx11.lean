-- Written by a program of this session (wip/tools/pr.py), which calls the kit's print with changes of its own.
import Derived.Test.YtbggkaofkohecaaPSyncFirstx0
import Derived.Test.YtbggkaofkohecaaPSyncFirstx1
import Derived.Test.YtbggkaofkohecaaPSyncFirstx2
import Derived.Test.YtbggkaofkohecaaPSyncFirstx6
import Derived.Test.YtbggkaofkohecaaPSyncFirstx9
import Derived.Test.YtbggkaofkohecaaPSyncFirstx10
namespace Go.Proofs.Ytbggkaofkohecaa.PSyncFirst
open Go.RowKit Go.Proofs.YtbggkaofkohecaaW.PrintWords Go.Proofs.YtbggkaofkohecaaW.PrintLast Go.Proofs.YtbggkaofkohecaaW.PrintMore
attribute [local go_sem] max2_int min2_int max_two min_two max_three min_three max_four min_four   -- for this text's walks alone
set_option linter.unusedVariables false
set_option linter.unusedSimpArgs false

attribute [local go_sem high] eqA32
/-! ### signalbenchlaw21_SyncFirst: function 6 -/
mutual
def signalbenchlaw21_SyncFirst.j0 : Nat → ByteArray → ByteArray → Int → Bool → Option (Bool)
 | 0, _, _, _, _ => none
 | k + 1, x1, x291000, x291001, x291002 => if (x1.size : Int) > 2000 then (signalbenchlaw21_SyncFirst.j1 k x1 true x291000 x291001 x291002) else ((signalbenchlaw21_bitItems.f k (([(⟨0, 0, 0, x1, 0⟩ : S46)] : List (S46)))).bind fun t295 => (if t295 = true then ((sync_Check.f k x291000 x291001 x291002).bind fun t296 => (if t296 = 0 then (if (x291000.size : Int) < 8 then (signalbenchlaw21_SyncFirst.j1 k x1 true x291000 x291001 x291002) else (if (x291000.size : Int) > 32 then (signalbenchlaw21_SyncFirst.j1 k x1 true x291000 x291001 x291002) else (if x291001 < 1 then (signalbenchlaw21_SyncFirst.j1 k x1 true x291000 x291001 x291002) else (signalbenchlaw21_SyncFirst.j1 k x1 (decide (x291001 > 256)) x291000 x291001 x291002)))) else (signalbenchlaw21_SyncFirst.j1 k x1 true x291000 x291001 x291002))) else (signalbenchlaw21_SyncFirst.j1 k x1 true x291000 x291001 x291002)))
def signalbenchlaw21_SyncFirst.j1 : Nat → ByteArray → Bool → ByteArray → Int → Bool → Option (Bool)
 | 0, _, _, _, _, _ => none
 | k + 1, x1, x46, x291000, x291001, x291002 => if x46 = true then (some true) else (signalbenchlaw21_SyncFirst.j2 k x1 x291000 x291001 x291002)
def signalbenchlaw21_SyncFirst.j2 : Nat → ByteArray → ByteArray → Int → Bool → Option (Bool)
 | 0, _, _, _, _ => none
 | k + 1, x1, x291000, x291001, x291002 => (signalbenchlaw21_events.f k (([(⟨0, 0, 0, x1, 0⟩ : S46)] : List (S46))) 1).bind fun t300 => ((sync_Decode.f k x291000 x291001 x291002 t300).bind fun t303 => (signalbenchlaw21_SyncFirst.l0 k x1 t303 0 x291000 x291001 x291002))
def signalbenchlaw21_SyncFirst.j4 : Nat → ByteArray → List (S32) → Int → ByteArray → Int → Bool → Option (Bool)
 | 0, _, _, _, _, _, _ => none
 | k + 1, x1, x5, x6, x291000, x291001, x291002 => if (wrap64 (x6 + (x291000.size : Int))) > (x1.size : Int) then (some ((x5.length : Int) == 0)) else (if (x5.length : Int) = 0 then (signalbenchlaw21_SyncFirst.j5 k x1 x5 x6 true x291000 x291001 x291002) else (if 0 < (x5.length : Int) then (signalbenchlaw21_SyncFirst.j5 k x1 x5 x6 (((rd_T32 x5 0).f1) != x6) x291000 x291001 x291002) else (none)))
def signalbenchlaw21_SyncFirst.j5 : Nat → ByteArray → List (S32) → Int → Bool → ByteArray → Int → Bool → Option (Bool)
 | 0, _, _, _, _, _, _, _ => none
 | k + 1, x1, x5, x6, x97, x291000, x291001, x291002 => if x97 = true then (some false) else (if (wrap64 ((wrap64 (x6 + (x291000.size : Int))) + (wrap64 (8 * x291001)))) > (x1.size : Int) then (if (x5.length : Int) = 1 then (if 0 < (x5.length : Int) then (some (((rd_T32 x5 0).f0) == 5 && (((rd_T32 x5 0).f1) == x6 && (((rd_T32 x5 0).f2) == (x1.size : Int) && (((rd_T32 x5 0).f3) == 0 && (((rd_T32 x5 0).f4) == 0 && ((((rd_T32 x5 0).f5).toList) == ([] : List UInt8) && (((rd_T32 x5 0).f6) == 7)))))))) else (none)) else (some false)) else (if 0 < (x5.length : Int) then (if ((rd_T32 x5 0).f6) = 0 then (if ((rd_T32 x5 0).f2) = (wrap64 ((wrap64 (x6 + (x291000.size : Int))) + (wrap64 (8 * x291001)))) then (some ((((rd_T32 x5 0).f5).size : Int) == x291001)) else (some false)) else (some false)) else (none)))
def signalbenchlaw21_SyncFirst.l0 : Nat → ByteArray → List (S32) → Int → ByteArray → Int → Bool → Option (Bool)
 | 0, _, _, _, _, _, _ => none
 | k + 1, x1, x5, x6, x291000, x291001, x291002 => if (wrap64 (x6 + (x291000.size : Int))) ≤ (x1.size : Int) then (if 0 ≤ x6 then (if x6 ≤ (wrap64 (x6 + (x291000.size : Int))) then (if (x1.extract (x6 : Int).toNat ((wrap64 (x6 + (x291000.size : Int))) : Int).toNat).toList = x291000.toList then (signalbenchlaw21_SyncFirst.j4 k x1 x5 x6 x291000 x291001 x291002) else (signalbenchlaw21_SyncFirst.l0 k x1 x5 (wrap64 (x6 + 1)) x291000 x291001 x291002)) else (none)) else (none)) else (signalbenchlaw21_SyncFirst.j4 k x1 x5 x6 x291000 x291001 x291002)
end
def signalbenchlaw21_SyncFirst.f (k : Nat) (a0_0 : ByteArray) (a0_1 : Int) (a0_2 : Bool) (a1 : ByteArray) : Option (Bool) := (signalbenchlaw21_lives.f k).bind fun t291 => (if t291 = true then (signalbenchlaw21_SyncFirst.j0 k a1 a0_0 a0_1 a0_2) else (some false))
theorem signalbenchlaw21_SyncFirst.mono_l : ∀ k, (∀ y0 y1 y2 y3, LeO (signalbenchlaw21_SyncFirst.j0 k y0 y1 y2 y3) (signalbenchlaw21_SyncFirst.j0 (k + 1) y0 y1 y2 y3)) ∧ (∀ y0 y1 y2 y3 y4, LeO (signalbenchlaw21_SyncFirst.j1 k y0 y1 y2 y3 y4) (signalbenchlaw21_SyncFirst.j1 (k + 1) y0 y1 y2 y3 y4)) ∧ (∀ y0 y1 y2 y3, LeO (signalbenchlaw21_SyncFirst.j2 k y0 y1 y2 y3) (signalbenchlaw21_SyncFirst.j2 (k + 1) y0 y1 y2 y3)) ∧ (∀ y0 y1 y2 y3 y4 y5, LeO (signalbenchlaw21_SyncFirst.j4 k y0 y1 y2 y3 y4 y5) (signalbenchlaw21_SyncFirst.j4 (k + 1) y0 y1 y2 y3 y4 y5)) ∧ (∀ y0 y1 y2 y3 y4 y5 y6, LeO (signalbenchlaw21_SyncFirst.j5 k y0 y1 y2 y3 y4 y5 y6) (signalbenchlaw21_SyncFirst.j5 (k + 1) y0 y1 y2 y3 y4 y5 y6)) ∧ (∀ y0 y1 y2 y3 y4 y5, LeO (signalbenchlaw21_SyncFirst.l0 k y0 y1 y2 y3 y4 y5) (signalbenchlaw21_SyncFirst.l0 (k + 1) y0 y1 y2 y3 y4 y5))
 | 0 => ⟨fun _ _ _ _ r h => by simp [signalbenchlaw21_SyncFirst.j0] at h, fun _ _ _ _ _ r h => by simp [signalbenchlaw21_SyncFirst.j1] at h, fun _ _ _ _ r h => by simp [signalbenchlaw21_SyncFirst.j2] at h, fun _ _ _ _ _ _ r h => by simp [signalbenchlaw21_SyncFirst.j4] at h, fun _ _ _ _ _ _ _ r h => by simp [signalbenchlaw21_SyncFirst.j5] at h, fun _ _ _ _ _ _ r h => by simp [signalbenchlaw21_SyncFirst.l0] at h⟩
 | k + 1 => by
  obtain ⟨ih0, ih1, ih2, ih3, ih4, ih5⟩ := signalbenchlaw21_SyncFirst.mono_l k
  refine ⟨?_, ?_, ?_, ?_, ?_, ?_⟩
  ·intro y0 y1 y2 y3
   unfold signalbenchlaw21_SyncFirst.j0
   repeat' first
   | (with_reducible exact ih0 _ _ _ _)
   | (with_reducible exact ih1 _ _ _ _ _)
   | (with_reducible exact ih2 _ _ _ _)
   | (with_reducible exact ih3 _ _ _ _ _ _)
   | (with_reducible exact ih4 _ _ _ _ _ _ _)
   | (with_reducible exact ih5 _ _ _ _ _ _)
   | (with_reducible exact signalbenchlaw21_bitItems.mono _ _)
   | (with_reducible exact signalbenchlaw21_events.mono _ _ _)
   | (with_reducible exact signalbenchlaw21_lives.mono _)
   | (with_reducible exact sync_Check.mono _ _ _ _)
   | (with_reducible exact sync_Decode.mono _ _ _ _ _)
   | (with_reducible exact LeO.refl _)
   | (with_reducible exact LeO.none _)
   | (with_reducible refine LeO.ite ?_ ?_)
   | (with_reducible refine LeO.bind ?_ (fun _ => ?_))
   | exact ih0 _ _ _ _
   | exact ih1 _ _ _ _ _
   | exact ih2 _ _ _ _
   | exact ih3 _ _ _ _ _ _
   | exact ih4 _ _ _ _ _ _ _
   | exact ih5 _ _ _ _ _ _
   | exact signalbenchlaw21_bitItems.mono _ _
   | exact signalbenchlaw21_events.mono _ _ _
   | exact signalbenchlaw21_lives.mono _
   | exact sync_Check.mono _ _ _ _
   | exact sync_Decode.mono _ _ _ _ _
   | exact LeO.none _
   | refine LeO.ite ?_ ?_
   | refine LeO.bind ?_ (fun _ => ?_)
  ·intro y0 y1 y2 y3 y4
   unfold signalbenchlaw21_SyncFirst.j1
   repeat' first
   | (with_reducible exact ih0 _ _ _ _)
   | (with_reducible exact ih1 _ _ _ _ _)
   | (with_reducible exact ih2 _ _ _ _)
   | (with_reducible exact ih3 _ _ _ _ _ _)
   | (with_reducible exact ih4 _ _ _ _ _ _ _)
   | (with_reducible exact ih5 _ _ _ _ _ _)
   | (with_reducible exact signalbenchlaw21_bitItems.mono _ _)
   | (with_reducible exact signalbenchlaw21_events.mono _ _ _)
   | (with_reducible exact signalbenchlaw21_lives.mono _)
   | (with_reducible exact sync_Check.mono _ _ _ _)
   | (with_reducible exact sync_Decode.mono _ _ _ _ _)
   | (with_reducible exact LeO.refl _)
   | (with_reducible exact LeO.none _)
   | (with_reducible refine LeO.ite ?_ ?_)
   | (with_reducible refine LeO.bind ?_ (fun _ => ?_))
   | exact ih0 _ _ _ _
   | exact ih1 _ _ _ _ _
   | exact ih2 _ _ _ _
   | exact ih3 _ _ _ _ _ _
   | exact ih4 _ _ _ _ _ _ _
   | exact ih5 _ _ _ _ _ _
   | exact signalbenchlaw21_bitItems.mono _ _
   | exact signalbenchlaw21_events.mono _ _ _
   | exact signalbenchlaw21_lives.mono _
   | exact sync_Check.mono _ _ _ _
   | exact sync_Decode.mono _ _ _ _ _
   | exact LeO.none _
   | refine LeO.ite ?_ ?_
   | refine LeO.bind ?_ (fun _ => ?_)
  ·intro y0 y1 y2 y3
   unfold signalbenchlaw21_SyncFirst.j2
   repeat' first
   | (with_reducible exact ih0 _ _ _ _)
   | (with_reducible exact ih1 _ _ _ _ _)
   | (with_reducible exact ih2 _ _ _ _)
   | (with_reducible exact ih3 _ _ _ _ _ _)
   | (with_reducible exact ih4 _ _ _ _ _ _ _)
   | (with_reducible exact ih5 _ _ _ _ _ _)
   | (with_reducible exact signalbenchlaw21_bitItems.mono _ _)
   | (with_reducible exact signalbenchlaw21_events.mono _ _ _)
   | (with_reducible exact signalbenchlaw21_lives.mono _)
   | (with_reducible exact sync_Check.mono _ _ _ _)
   | (with_reducible exact sync_Decode.mono _ _ _ _ _)
   | (with_reducible exact LeO.refl _)
   | (with_reducible exact LeO.none _)
   | (with_reducible refine LeO.ite ?_ ?_)
   | (with_reducible refine LeO.bind ?_ (fun _ => ?_))
   | exact ih0 _ _ _ _
   | exact ih1 _ _ _ _ _
   | exact ih2 _ _ _ _
   | exact ih3 _ _ _ _ _ _
   | exact ih4 _ _ _ _ _ _ _
   | exact ih5 _ _ _ _ _ _
   | exact signalbenchlaw21_bitItems.mono _ _
   | exact signalbenchlaw21_events.mono _ _ _
   | exact signalbenchlaw21_lives.mono _
   | exact sync_Check.mono _ _ _ _
   | exact sync_Decode.mono _ _ _ _ _
   | exact LeO.none _
   | refine LeO.ite ?_ ?_
   | refine LeO.bind ?_ (fun _ => ?_)
  ·intro y0 y1 y2 y3 y4 y5
   unfold signalbenchlaw21_SyncFirst.j4
   repeat' first
   | (with_reducible exact ih0 _ _ _ _)
   | (with_reducible exact ih1 _ _ _ _ _)
   | (with_reducible exact ih2 _ _ _ _)
   | (with_reducible exact ih3 _ _ _ _ _ _)
   | (with_reducible exact ih4 _ _ _ _ _ _ _)
   | (with_reducible exact ih5 _ _ _ _ _ _)
   | (with_reducible exact signalbenchlaw21_bitItems.mono _ _)
   | (with_reducible exact signalbenchlaw21_events.mono _ _ _)
   | (with_reducible exact signalbenchlaw21_lives.mono _)
   | (with_reducible exact sync_Check.mono _ _ _ _)
   | (with_reducible exact sync_Decode.mono _ _ _ _ _)
   | (with_reducible exact LeO.refl _)
   | (with_reducible exact LeO.none _)
   | (with_reducible refine LeO.ite ?_ ?_)
   | (with_reducible refine LeO.bind ?_ (fun _ => ?_))
   | exact ih0 _ _ _ _
   | exact ih1 _ _ _ _ _
   | exact ih2 _ _ _ _
   | exact ih3 _ _ _ _ _ _
   | exact ih4 _ _ _ _ _ _ _
   | exact ih5 _ _ _ _ _ _
   | exact signalbenchlaw21_bitItems.mono _ _
   | exact signalbenchlaw21_events.mono _ _ _
   | exact signalbenchlaw21_lives.mono _
   | exact sync_Check.mono _ _ _ _
   | exact sync_Decode.mono _ _ _ _ _
   | exact LeO.none _
   | refine LeO.ite ?_ ?_
   | refine LeO.bind ?_ (fun _ => ?_)
  ·intro y0 y1 y2 y3 y4 y5 y6
   unfold signalbenchlaw21_SyncFirst.j5
   repeat' first
   | (with_reducible exact ih0 _ _ _ _)
   | (with_reducible exact ih1 _ _ _ _ _)
   | (with_reducible exact ih2 _ _ _ _)
   | (with_reducible exact ih3 _ _ _ _ _ _)
   | (with_reducible exact ih4 _ _ _ _ _ _ _)
   | (with_reducible exact ih5 _ _ _ _ _ _)
   | (with_reducible exact signalbenchlaw21_bitItems.mono _ _)
   | (with_reducible exact signalbenchlaw21_events.mono _ _ _)
   | (with_reducible exact signalbenchlaw21_lives.mono _)
   | (with_reducible exact sync_Check.mono _ _ _ _)
   | (with_reducible exact sync_Decode.mono _ _ _ _ _)
   | (with_reducible exact LeO.refl _)
   | (with_reducible exact LeO.none _)
   | (with_reducible refine LeO.ite ?_ ?_)
   | (with_reducible refine LeO.bind ?_ (fun _ => ?_))
   | exact ih0 _ _ _ _
   | exact ih1 _ _ _ _ _
   | exact ih2 _ _ _ _
   | exact ih3 _ _ _ _ _ _
   | exact ih4 _ _ _ _ _ _ _
   | exact ih5 _ _ _ _ _ _
   | exact signalbenchlaw21_bitItems.mono _ _
   | exact signalbenchlaw21_events.mono _ _ _
   | exact signalbenchlaw21_lives.mono _
   | exact sync_Check.mono _ _ _ _
   | exact sync_Decode.mono _ _ _ _ _
   | exact LeO.none _
   | refine LeO.ite ?_ ?_
   | refine LeO.bind ?_ (fun _ => ?_)
  ·intro y0 y1 y2 y3 y4 y5
   unfold signalbenchlaw21_SyncFirst.l0
   repeat' first
   | (with_reducible exact ih0 _ _ _ _)
   | (with_reducible exact ih1 _ _ _ _ _)
   | (with_reducible exact ih2 _ _ _ _)
   | (with_reducible exact ih3 _ _ _ _ _ _)
   | (with_reducible exact ih4 _ _ _ _ _ _ _)
   | (with_reducible exact ih5 _ _ _ _ _ _)
   | (with_reducible exact signalbenchlaw21_bitItems.mono _ _)
   | (with_reducible exact signalbenchlaw21_events.mono _ _ _)
   | (with_reducible exact signalbenchlaw21_lives.mono _)
   | (with_reducible exact sync_Check.mono _ _ _ _)
   | (with_reducible exact sync_Decode.mono _ _ _ _ _)
   | (with_reducible exact LeO.refl _)
   | (with_reducible exact LeO.none _)
   | (with_reducible refine LeO.ite ?_ ?_)
   | (with_reducible refine LeO.bind ?_ (fun _ => ?_))
   | exact ih0 _ _ _ _
   | exact ih1 _ _ _ _ _
   | exact ih2 _ _ _ _
   | exact ih3 _ _ _ _ _ _
   | exact ih4 _ _ _ _ _ _ _
   | exact ih5 _ _ _ _ _ _
   | exact signalbenchlaw21_bitItems.mono _ _
   | exact signalbenchlaw21_events.mono _ _ _
   | exact signalbenchlaw21_lives.mono _
   | exact sync_Check.mono _ _ _ _
   | exact sync_Decode.mono _ _ _ _ _
   | exact LeO.none _
   | refine LeO.ite ?_ ?_
   | refine LeO.bind ?_ (fun _ => ?_)
theorem signalbenchlaw21_SyncFirst.mono : ∀ a0 a1 a2 a3 k, LeO (signalbenchlaw21_SyncFirst.f k a0 a1 a2 a3) (signalbenchlaw21_SyncFirst.f (k + 1) a0 a1 a2 a3) := by
 intro a0 a1 a2 a3 k
 obtain ⟨ih0, ih1, ih2, ih3, ih4, ih5⟩ := signalbenchlaw21_SyncFirst.mono_l k
 unfold signalbenchlaw21_SyncFirst.f
 repeat' first
   | (with_reducible exact ih0 _ _ _ _)
   | (with_reducible exact ih1 _ _ _ _ _)
   | (with_reducible exact ih2 _ _ _ _)
   | (with_reducible exact ih3 _ _ _ _ _ _)
   | (with_reducible exact ih4 _ _ _ _ _ _ _)
   | (with_reducible exact ih5 _ _ _ _ _ _)
   | (with_reducible exact signalbenchlaw21_bitItems.mono _ _)
   | (with_reducible exact signalbenchlaw21_events.mono _ _ _)
   | (with_reducible exact signalbenchlaw21_lives.mono _)
   | (with_reducible exact sync_Check.mono _ _ _ _)
   | (with_reducible exact sync_Decode.mono _ _ _ _ _)
   | (with_reducible exact LeO.refl _)
   | (with_reducible exact LeO.none _)
   | (with_reducible refine LeO.ite ?_ ?_)
   | (with_reducible refine LeO.bind ?_ (fun _ => ?_))
   | exact ih0 _ _ _ _
   | exact ih1 _ _ _ _ _
   | exact ih2 _ _ _ _
   | exact ih3 _ _ _ _ _ _
   | exact ih4 _ _ _ _ _ _ _
   | exact ih5 _ _ _ _ _ _
   | exact signalbenchlaw21_bitItems.mono _ _
   | exact signalbenchlaw21_events.mono _ _ _
   | exact signalbenchlaw21_lives.mono _
   | exact sync_Check.mono _ _ _ _
   | exact sync_Decode.mono _ _ _ _ _
   | exact LeO.none _
   | refine LeO.ite ?_ ?_
   | refine LeO.bind ?_ (fun _ => ?_)
def signalbenchlaw21_SyncFirst.T7 : Bool × List (List Nat × List Nat) := (true, [([], []), ([], []), ([1], [1]), ([2], [2]), ([0, 3], [0, 3]), ([], []), ([5], [5]), ([4, 6], [4, 6]), ([7], [7]), ([8], [8]), ([8], [8]), ([8], [8]), ([8], [8]), ([12, 8], [8, 12]), ([13, 8], [8, 13]), ([11, 14, 8], [8, 11, 14]), ([9, 10, 15, 8], [8, 9, 10, 15]), ([8], [8]), ([17, 8], [8, 17]), ([16, 18, 8], [8, 16, 18]), ([8, 19], [8, 19])])
def signalbenchlaw21_SyncFirst.B7 : List Nat := [0, 0, 2, 6, 15, 0, 32, 127, 255, 511, 511, 511, 511, 4607, 12799, 31231, 65535, 511, 131583, 524287, 1048575]
theorem signalbenchlaw21_SyncFirst.tab7 : rtab .any (opsOf Try.f6 7) = signalbenchlaw21_SyncFirst.T7 := by kernel_rfl
theorem signalbenchlaw21_SyncFirst.bits7 : waitsOk signalbenchlaw21_SyncFirst.T7.2 signalbenchlaw21_SyncFirst.B7 = true := by kernel_rfl
def signalbenchlaw21_SyncFirst.T16 : Bool × List (List Nat × List Nat) := (true, [([], []), ([0], [0]), ([1], [1]), ([2], [2]), ([3], [3]), ([4], [4]), ([5], [5]), ([6, 5], [5, 6]), ([7, 5], [5, 7]), ([8, 5], [5, 8]), ([5], [5]), ([9, 10, 5], [5, 9, 10]), ([5, 11], [5, 11]), ([12, 5], [12]), ([13], [13]), ([14, 13], [13, 14]), ([15, 13], [13, 15]), ([16, 13], [13, 16]), ([17, 13], [13, 17]), ([13], [13]), ([19, 13], [13, 19]), ([18, 20, 13], [13, 18, 20]), ([13, 21], [13, 21]), ([22, 13, 0, 1, 2, 3, 4, 5, 6, 7, 8, 9, 10, 11, 12, 13, 14, 15, 16, 17, 18, 19, 20, 21, 22], [22])])
def signalbenchlaw21_SyncFirst.B16 : List Nat := [0, 1, 3, 7, 15, 31, 63, 127, 255, 511, 63, 2047, 4095, 8191, 16383, 32767, 65535, 131071, 262143, 16383, 540671, 2097151, 4194303, 8388607]
theorem signalbenchlaw21_SyncFirst.tab16 : rtab .any (opsOf Try.f6 16) = signalbenchlaw21_SyncFirst.T16 := by kernel_rfl
theorem signalbenchlaw21_SyncFirst.bits16 : waitsOk signalbenchlaw21_SyncFirst.T16.2 signalbenchlaw21_SyncFirst.B16 = true := by kernel_rfl
set_option maxHeartbeats 8000000 in
set_option maxRecDepth 100000 in
theorem signalbenchlaw21_SyncFirst.calls (k : Nat) (a0_0 : ByteArray) (a0_1 : Int) (a0_2 : Bool) (a1 : ByteArray) (r : Bool) (w : World) (h : signalbenchlaw21_SyncFirst.f k a0_0 a0_1 a0_2 a1 = some r) :
  Calls Try.prog 6 #[.agg #[.string a0_0, .int .i64 a0_1, .bool a0_2], .string a1] w fun e w' => e = .returned (.bool r) ∧ Below w.heap.size w w' := by
 have hu23 := Try.underlying23
 have hu46 := Try.underlying46
 have hu32 := Try.underlying32
 have HB := Aside0.mk (Below.refl w.heap.size w)
 have H : ((signalbenchlaw21_lives.f k).bind fun t291 => (if t291 = true then (signalbenchlaw21_SyncFirst.j0 k a1 a0_0 a0_1 a0_2) else (some false))) = some r := h
 clear h
 replace H := Option.bind_eq_some_iff.mp H
 obtain ⟨t291, A30, H⟩ := H
 replace H : (if t291 = true then (signalbenchlaw21_SyncFirst.j0 k a1 a0_0 a0_1 a0_2) else (some false)) = some r := H
 have A3 := Aside0.mk A30
 clear A30
 have HC4 := Aside0.mk H
 clear H
 go_enter Try.func6, Try.ntmps6
 go_upto_if 9 with (first | ((with_reducible refine gate_dst (N := 2) rfl ?_); (try (refine gate_guard (by first | rfl | (go_simp; done)) ?_; dsimp only)); refine box_event ?hg (N := 2) ?hd (cs := #[.string a0_0, .int .i64 a0_1, .bool a0_2]) (t := 23) ?hr ?_; (case hd => rfl); (case hg => rfl); (case hr => first | (go_simp; done) | (go_simp; rfl)); intro gb290 hg w5 hbox hb; have n0_ := Aside0.mk (below_step (hbw HB.out) hb); have n1_ := Aside0.mk (hbox); have n2_ := Aside0.mk ((by rw [hg]; exact (below_size (hbw HB.out)) : w.heap.size ≤ gb290)); have n3_ := Aside0.mk ((by rw [hg]; exact (below_size (hbw HB.out)) : w.heap.size ≤ gb290)); clear HB; have HB := n0_; have BK290 := n1_; have GW290 := n2_; have GE290 := n3_; clear n0_ n1_ n2_ n3_; clear hb hbox hg) | ((with_reducible refine gate_callee (f := 8) rfl ?_); refine goesL_ (some 8) rfl rfl Try.func8 (by kernel_rfl) rfl #[] rfl (by (try simp only [List.map_toArray, List.map_cons, List.map_nil]); first | done | rfl | (simp only [List.length_drop, List.length_take]; rfl)) ?_; (with_reducible refine (signalbenchlaw21_lives.calls k  t291 _ A3.out).mono ?_); rintro e w6 ⟨rfl, hb⟩; refine ⟨_, rfl, ?_⟩; have n0_ := Aside0.mk (blkb BK290.out hb); have n1_ := Aside0.mk (below_step (hbw HB.out) hb); clear BK290; clear HB; have BK290 := n0_; have HB := n1_; clear n0_ n1_; (try clear hb); (try clear hb2); (try clear hk); (try clear hi)))
 (try simp only [Act.put, List.setIfInBounds_toArray, List.set_cons_zero, List.set_cons_succ])
 go_cut [] (fun wc => ∃ (kq : Nat), Aside0 (signalbenchlaw21_SyncFirst.j0 kq a1 a0_0 a0_1 a0_2 = some r) ∧ Aside0 (kq ≤ k) ∧ Aside0 (wc.heap[gb290]? = some (.cells #[.string a0_0, .int .i64 a0_1, .bool a0_2] 23 (0, 0))) ∧ Aside0 (Below w.heap.size w wc))
 case first =>
  have H := HC4.out
  clear HC4
  by_cases c7 : t291 = true
  ·subst c7
   have H1 : (signalbenchlaw21_SyncFirst.j0 k a1 a0_0 a0_1 a0_2) = some r := by rw [if_pos rfl] at H; exact H
   clear H
   have H := H1
   clear H1
   have H' := Aside0.mk H
   clear H
   go_wp2
   go_meet
   case rel => exact ⟨_, H', ⟨by first | omega | exact Nat.le_refl _⟩, ⟨by (with_reducible repeat (first | refine blk_drewN ?_ _ | refine blk_drew ?_ | refine blk_alloc ?_ _)); exact BK290.out⟩, ⟨by repeat (first | (with_reducible first | exact HB.out | apply below_alloc | apply pw_below_drewN | apply below_drew1 | refine below_set ?_ GE290.out) | exact HB.out)⟩⟩
  ·replace c7 := Bool.eq_false_iff.mpr c7
   subst c7
   have H1 : (some false) = some r := by rw [if_neg (show ¬ (false = true) by decide)] at H; exact H
   clear H
   have H := H1
   clear H1
   obtain rfl := Option.some.inj H
   go_wp2
   go_ret
   exact ⟨by first | rfl | (simp [errW_none, errW_some] <;> rfl) | (simp [*, errW_none, errW_some] <;> rfl), by repeat (first | (with_reducible first | exact HB.out | apply below_alloc | apply pw_below_drewN | apply below_drew1 | refine below_set ?_ GE290.out) | exact HB.out)⟩
 case rest =>
  clear HC4
  try clear p2
  try clear c6
  try clear c7
  obtain ⟨kq, HA, HJ3, BK290, HB⟩ := hcut
  cases kq with
  | zero => exact absurd HA.out (by simp [signalbenchlaw21_SyncFirst.j0])
  | succ kj3 =>
   have H := HA.out
   clear HA
   simp only [signalbenchlaw21_SyncFirst.j0] at H
   have HC8 := Aside0.mk H
   clear H
   go_upto_region 3 with (fail)
   go_cut [46] (fun v46 wc => ∃ (kq : Nat) (x46_7 : Bool), v46 = .bool x46_7 ∧ Aside0 (signalbenchlaw21_SyncFirst.j1 kq a1 x46_7 a0_0 a0_1 a0_2 = some r) ∧ Aside0 (kq ≤ kj3) ∧ Aside0 (wc.heap[gb290]? = some (.cells #[.string a0_0, .int .i64 a0_1, .bool a0_2] 23 (0, 0))) ∧ Aside0 (Below w.heap.size w wc))
   case first =>
    have H := HC8.out
    clear HC8
    by_cases c9 : (a1.size : Int) > 2000
    ·rw [if_pos c9] at H
     have c9b0 : decide (2000 < (a1.size : Int)) = true := decide_eq_true c9
     have c9b1 : decide (2000 < a1.size) = true := decide_eq_true (by omega)
     clear c9
     (first | rw [c9b0] | (simp only [i64_w, i32_w]; rw [c9b0]) | skip)
     have H' := Aside0.mk H
     clear H
     go_wp2
     go_meet
     case rel => exact ⟨_, (true), (by first | rfl | (simp; done) | (simp [*]; done)), H', ⟨by have := HJ3.out; first | omega | exact Nat.le_refl _⟩, ⟨by (with_reducible repeat (first | refine blk_drewN ?_ _ | refine blk_drew ?_ | refine blk_alloc ?_ _)); exact BK290.out⟩, ⟨by repeat (first | (with_reducible first | exact HB.out | apply below_alloc | apply pw_below_drewN | apply below_drew1 | refine below_set ?_ GE290.out) | exact HB.out)⟩⟩
    ·rw [if_neg c9] at H
     have c9b0 : decide (2000 < (a1.size : Int)) = false := decide_eq_false c9
     have c9b1 : decide (2000 < a1.size) = false := decide_eq_false (by omega)
     clear c9
     (first | rw [c9b0] | (simp only [i64_w, i32_w]; rw [c9b0]) | skip)
     obtain ⟨y292, hy292⟩ : ∃ y_ : List (S46), y_ = (([(⟨0, 0, 0, a1, 0⟩ : S46)] : List (S46))) := ⟨_, rfl⟩
     replace H : ((signalbenchlaw21_bitItems.f kj3 y292).bind fun t295 => (if t295 = true then ((sync_Check.f kj3 a0_0 a0_1 a0_2).bind fun t296 => (if t296 = 0 then (if (a0_0.size : Int) < 8 then (signalbenchlaw21_SyncFirst.j1 kj3 a1 true a0_0 a0_1 a0_2) else (if (a0_0.size : Int) > 32 then (signalbenchlaw21_SyncFirst.j1 kj3 a1 true a0_0 a0_1 a0_2) else (if a0_1 < 1 then (signalbenchlaw21_SyncFirst.j1 kj3 a1 true a0_0 a0_1 a0_2) else (signalbenchlaw21_SyncFirst.j1 kj3 a1 (decide (a0_1 > 256)) a0_0 a0_1 a0_2)))) else (signalbenchlaw21_SyncFirst.j1 kj3 a1 true a0_0 a0_1 a0_2))) else (signalbenchlaw21_SyncFirst.j1 kj3 a1 true a0_0 a0_1 a0_2))) = some r := by first | (rw [hy292]; with_reducible exact H) | (have H2_ := (Option.bind_some _ _).symm.trans H; rw [hy292]; with_reducible exact H2_) | (have H2_ := (Option.bind_some _ _).symm.trans H; with_reducible exact H2_) | with_reducible exact H | (rw [hy292]; exact H) | exact H
     have Ny292 := Aside0.mk hy292
     clear hy292
     replace H := Option.bind_eq_some_iff.mp H
     obtain ⟨t295, A100, H⟩ := H
     replace H : (if t295 = true then ((sync_Check.f kj3 a0_0 a0_1 a0_2).bind fun t296 => (if t296 = 0 then (if (a0_0.size : Int) < 8 then (signalbenchlaw21_SyncFirst.j1 kj3 a1 true a0_0 a0_1 a0_2) else (if (a0_0.size : Int) > 32 then (signalbenchlaw21_SyncFirst.j1 kj3 a1 true a0_0 a0_1 a0_2) else (if a0_1 < 1 then (signalbenchlaw21_SyncFirst.j1 kj3 a1 true a0_0 a0_1 a0_2) else (signalbenchlaw21_SyncFirst.j1 kj3 a1 (decide (a0_1 > 256)) a0_0 a0_1 a0_2)))) else (signalbenchlaw21_SyncFirst.j1 kj3 a1 true a0_0 a0_1 a0_2))) else (signalbenchlaw21_SyncFirst.j1 kj3 a1 true a0_0 a0_1 a0_2)) = some r := H
     have A10 := Aside0.mk A100
     clear A100
     by_cases c11 : t295 = true
     ·subst c11
      have H1 : ((sync_Check.f kj3 a0_0 a0_1 a0_2).bind fun t296 => (if t296 = 0 then (if (a0_0.size : Int) < 8 then (signalbenchlaw21_SyncFirst.j1 kj3 a1 true a0_0 a0_1 a0_2) else (if (a0_0.size : Int) > 32 then (signalbenchlaw21_SyncFirst.j1 kj3 a1 true a0_0 a0_1 a0_2) else (if a0_1 < 1 then (signalbenchlaw21_SyncFirst.j1 kj3 a1 true a0_0 a0_1 a0_2) else (signalbenchlaw21_SyncFirst.j1 kj3 a1 (decide (a0_1 > 256)) a0_0 a0_1 a0_2)))) else (signalbenchlaw21_SyncFirst.j1 kj3 a1 true a0_0 a0_1 a0_2))) = some r := by rw [if_pos rfl] at H; exact H
      clear H
      have H := H1
      clear H1
      replace H := Option.bind_eq_some_iff.mp H
      obtain ⟨t296, A120, H⟩ := H
      replace H : (if t296 = 0 then (if (a0_0.size : Int) < 8 then (signalbenchlaw21_SyncFirst.j1 kj3 a1 true a0_0 a0_1 a0_2) else (if (a0_0.size : Int) > 32 then (signalbenchlaw21_SyncFirst.j1 kj3 a1 true a0_0 a0_1 a0_2) else (if a0_1 < 1 then (signalbenchlaw21_SyncFirst.j1 kj3 a1 true a0_0 a0_1 a0_2) else (signalbenchlaw21_SyncFirst.j1 kj3 a1 (decide (a0_1 > 256)) a0_0 a0_1 a0_2)))) else (signalbenchlaw21_SyncFirst.j1 kj3 a1 true a0_0 a0_1 a0_2)) = some r := H
      have A12 := Aside0.mk A120
      clear A120
      by_cases c13 : t296 = 0
      ·rw [if_pos c13] at H
       have c13b0 : (t296 == 0) = true := beq_iff_eq.mpr c13
       have c13b1 : (t296 != 0) = false := bne_eq_false_iff_eq.mpr c13
       clear c13
       by_cases c14 : (a0_0.size : Int) < 8
       ·rw [if_pos c14] at H
        have c14b0 : decide ((a0_0.size : Int) < 8) = true := decide_eq_true c14
        have c14b1 : decide (a0_0.size < 8) = true := decide_eq_true (by omega)
        clear c14
        have H' := Aside0.mk H
        clear H
        go_wp2_with (first | ((with_reducible refine gate_dst (N := 16) rfl ?_); (try (refine gate_guard (by first | rfl | (go_simp; done)) ?_; dsimp only)); refine Kd.R_lit k46 _ 46 ?hg (N := 16) ?hd (xs := ([(⟨0, 0, 0, a1, 0⟩ : S46)] : List (S46))) (inner := [.int .i64 0, .int .i64 0, .int .i64 0, .string a1, .int .i64 0]) (ok := fun _ => True) (okp := fun _ => True) ?hr ?hp (fun _ hk => hk) trivial (Below.refl _ _) (Nat.le_refl _) (by simp) ?_; (case hd => rfl); (case hg => rfl); (case hr => first | (go_simp; done) | (go_simp; rfl)); (case hp => exact (Reps.c5 (show Kd.M k46 _ _ _ (⟨0, 0, 0, a1, 0⟩ : S46) [.int .i64 0, .int .i64 0, .int .i64 0, .string a1, .int .i64 0] from (k46_mkM _ _ _ (⟨0, 0, 0, a1, 0⟩ : S46) )) (Reps.none _ _))); intro v293 w15 ho16 hb hg_ hnew_; clear hg_ hnew_; (first | rw [← Ny292.out] at ho16 | (simp only [Int.reduceToNat] at ho16; rw [← Ny292.out] at ho16)); have n0_ := Aside0.mk (Kd.R_lower ho16 (below_size (hbw HB.out))); have n1_ := Aside0.mk (blkb BK290.out hb); have n2_ := Aside0.mk (below_step (hbw HB.out) hb); clear BK290; clear HB; have HO294 := n0_; have BK290 := n1_; have HB := n2_; clear n0_ n1_ n2_; clear hb ho16; obtain ⟨Ao17, co17, eo17⟩ := Kd.R_slice HO294.out; subst eo17) | (go_at_call 24; (with_reducible refine (signalbenchlaw21_bitItems.calls kj3 _ _ y292 true _ ?side1 ?side2 A10.out).mono ?_); (case side1 => repeat (first | exact (Kd.R_reads' HO294.out).2.2 | (with_reducible refine Kd.C_alloc ?_ _) | (with_reducible refine Kd.C_drewN ?_ _) | (with_reducible refine Kd.C_drew ?_))); (case side2 => exact (Kd.R_reads' HO294.out).2.1); rintro e w' ⟨rfl, ⟨nd, rfl⟩⟩; have hcz18_0 : w15.cell? ⟨gb290, 0, none⟩ = some (.string a0_0) := (blk_cell BK290.out 0).trans rfl; have hcz18_1 : w15.cell? ⟨gb290, 1, none⟩ = some (.int .i64 a0_1) := (blk_cell BK290.out 1).trans rfl; have hcz18_2 : w15.cell? ⟨gb290, 2, none⟩ = some (.bool a0_2) := (blk_cell BK290.out 2).trans rfl; have hfz18_0 := blk_frozen BK290.out 0; have hfz18_1 := blk_frozen BK290.out 1; have hfz18_2 := blk_frozen BK290.out 2) | (go_at_call 21; (with_reducible refine (sync_Check.calls kj3 a0_0 a0_1 a0_2 t296 _ A12.out).mono ?_); rintro e w19 ⟨rfl, hb⟩; have n0_ := Aside0.mk (Kd.R_below (rkw HO294.out) hb); have n1_ := Aside0.mk (blkb BK290.out hb); have n2_ := Aside0.mk (below_step (hbw HB.out) hb); clear HO294; clear BK290; clear HB; have HO294 := n0_; have BK290 := n1_; have HB := n2_; clear n0_ n1_ n2_; (try clear hb); (try clear hb2); (try clear hk); (try clear hi); have hcz20_0 : w19.cell? ⟨gb290, 0, none⟩ = some (.string a0_0) := (blk_cell BK290.out 0).trans rfl; have hcz20_1 : w19.cell? ⟨gb290, 1, none⟩ = some (.int .i64 a0_1) := (blk_cell BK290.out 1).trans rfl; have hcz20_2 : w19.cell? ⟨gb290, 2, none⟩ = some (.bool a0_2) := (blk_cell BK290.out 2).trans rfl; have hfz20_0 := blk_frozen BK290.out 0; have hfz20_1 := blk_frozen BK290.out 1; have hfz20_2 := blk_frozen BK290.out 2))
        go_meet
        case rel => exact ⟨_, (true), (by first | rfl | (simp; done) | (simp [*]; done)), H', ⟨by have := HJ3.out; first | omega | exact Nat.le_refl _⟩, ⟨by (with_reducible repeat (first | refine blk_drewN ?_ _ | refine blk_drew ?_ | refine blk_alloc ?_ _)); exact BK290.out⟩, ⟨by repeat (first | (with_reducible first | exact HB.out | apply below_alloc | apply pw_below_drewN | apply below_drew1 | refine below_set ?_ GE290.out) | exact HB.out)⟩⟩
       ·rw [if_neg c14] at H
        have c14b0 : decide ((a0_0.size : Int) < 8) = false := decide_eq_false c14
        have c14b1 : decide (a0_0.size < 8) = false := decide_eq_false (by omega)
        clear c14
        by_cases c21 : (a0_0.size : Int) > 32
        ·rw [if_pos c21] at H
         have c21b0 : decide (32 < (a0_0.size : Int)) = true := decide_eq_true c21
         have c21b1 : decide (32 < a0_0.size) = true := decide_eq_true (by omega)
         clear c21
         have H' := Aside0.mk H
         clear H
         go_wp2_with (first | ((with_reducible refine gate_dst (N := 16) rfl ?_); (try (refine gate_guard (by first | rfl | (go_simp; done)) ?_; dsimp only)); refine Kd.R_lit k46 _ 46 ?hg (N := 16) ?hd (xs := ([(⟨0, 0, 0, a1, 0⟩ : S46)] : List (S46))) (inner := [.int .i64 0, .int .i64 0, .int .i64 0, .string a1, .int .i64 0]) (ok := fun _ => True) (okp := fun _ => True) ?hr ?hp (fun _ hk => hk) trivial (Below.refl _ _) (Nat.le_refl _) (by simp) ?_; (case hd => rfl); (case hg => rfl); (case hr => first | (go_simp; done) | (go_simp; rfl)); (case hp => exact (Reps.c5 (show Kd.M k46 _ _ _ (⟨0, 0, 0, a1, 0⟩ : S46) [.int .i64 0, .int .i64 0, .int .i64 0, .string a1, .int .i64 0] from (k46_mkM _ _ _ (⟨0, 0, 0, a1, 0⟩ : S46) )) (Reps.none _ _))); intro v293 w22 ho23 hb hg_ hnew_; clear hg_ hnew_; (first | rw [← Ny292.out] at ho23 | (simp only [Int.reduceToNat] at ho23; rw [← Ny292.out] at ho23)); have n0_ := Aside0.mk (Kd.R_lower ho23 (below_size (hbw HB.out))); have n1_ := Aside0.mk (blkb BK290.out hb); have n2_ := Aside0.mk (below_step (hbw HB.out) hb); clear BK290; clear HB; have HO294 := n0_; have BK290 := n1_; have HB := n2_; clear n0_ n1_ n2_; clear hb ho23; obtain ⟨Ao24, co24, eo24⟩ := Kd.R_slice HO294.out; subst eo24) | (go_at_call 24; (with_reducible refine (signalbenchlaw21_bitItems.calls kj3 _ _ y292 true _ ?side1 ?side2 A10.out).mono ?_); (case side1 => repeat (first | exact (Kd.R_reads' HO294.out).2.2 | (with_reducible refine Kd.C_alloc ?_ _) | (with_reducible refine Kd.C_drewN ?_ _) | (with_reducible refine Kd.C_drew ?_))); (case side2 => exact (Kd.R_reads' HO294.out).2.1); rintro e w' ⟨rfl, ⟨nd, rfl⟩⟩; have hcz25_0 : w22.cell? ⟨gb290, 0, none⟩ = some (.string a0_0) := (blk_cell BK290.out 0).trans rfl; have hcz25_1 : w22.cell? ⟨gb290, 1, none⟩ = some (.int .i64 a0_1) := (blk_cell BK290.out 1).trans rfl; have hcz25_2 : w22.cell? ⟨gb290, 2, none⟩ = some (.bool a0_2) := (blk_cell BK290.out 2).trans rfl; have hfz25_0 := blk_frozen BK290.out 0; have hfz25_1 := blk_frozen BK290.out 1; have hfz25_2 := blk_frozen BK290.out 2) | (go_at_call 21; (with_reducible refine (sync_Check.calls kj3 a0_0 a0_1 a0_2 t296 _ A12.out).mono ?_); rintro e w26 ⟨rfl, hb⟩; have n0_ := Aside0.mk (Kd.R_below (rkw HO294.out) hb); have n1_ := Aside0.mk (blkb BK290.out hb); have n2_ := Aside0.mk (below_step (hbw HB.out) hb); clear HO294; clear BK290; clear HB; have HO294 := n0_; have BK290 := n1_; have HB := n2_; clear n0_ n1_ n2_; (try clear hb); (try clear hb2); (try clear hk); (try clear hi); have hcz27_0 : w26.cell? ⟨gb290, 0, none⟩ = some (.string a0_0) := (blk_cell BK290.out 0).trans rfl; have hcz27_1 : w26.cell? ⟨gb290, 1, none⟩ = some (.int .i64 a0_1) := (blk_cell BK290.out 1).trans rfl; have hcz27_2 : w26.cell? ⟨gb290, 2, none⟩ = some (.bool a0_2) := (blk_cell BK290.out 2).trans rfl; have hfz27_0 := blk_frozen BK290.out 0; have hfz27_1 := blk_frozen BK290.out 1; have hfz27_2 := blk_frozen BK290.out 2))
         go_meet
         case rel => exact ⟨_, (true), (by first | rfl | (simp; done) | (simp [*]; done)), H', ⟨by have := HJ3.out; first | omega | exact Nat.le_refl _⟩, ⟨by (with_reducible repeat (first | refine blk_drewN ?_ _ | refine blk_drew ?_ | refine blk_alloc ?_ _)); exact BK290.out⟩, ⟨by repeat (first | (with_reducible first | exact HB.out | apply below_alloc | apply pw_below_drewN | apply below_drew1 | refine below_set ?_ GE290.out) | exact HB.out)⟩⟩
        ·rw [if_neg c21] at H
         have c21b0 : decide (32 < (a0_0.size : Int)) = false := decide_eq_false c21
         have c21b1 : decide (32 < a0_0.size) = false := decide_eq_false (by omega)
         clear c21
         by_cases c28 : a0_1 < 1
         ·rw [if_pos c28] at H
          have c28b0 : decide (a0_1 < 1) = true := decide_eq_true c28
          clear c28
          have H' := Aside0.mk H
          clear H
          go_wp2_with (first | ((with_reducible refine gate_dst (N := 16) rfl ?_); (try (refine gate_guard (by first | rfl | (go_simp; done)) ?_; dsimp only)); refine Kd.R_lit k46 _ 46 ?hg (N := 16) ?hd (xs := ([(⟨0, 0, 0, a1, 0⟩ : S46)] : List (S46))) (inner := [.int .i64 0, .int .i64 0, .int .i64 0, .string a1, .int .i64 0]) (ok := fun _ => True) (okp := fun _ => True) ?hr ?hp (fun _ hk => hk) trivial (Below.refl _ _) (Nat.le_refl _) (by simp) ?_; (case hd => rfl); (case hg => rfl); (case hr => first | (go_simp; done) | (go_simp; rfl)); (case hp => exact (Reps.c5 (show Kd.M k46 _ _ _ (⟨0, 0, 0, a1, 0⟩ : S46) [.int .i64 0, .int .i64 0, .int .i64 0, .string a1, .int .i64 0] from (k46_mkM _ _ _ (⟨0, 0, 0, a1, 0⟩ : S46) )) (Reps.none _ _))); intro v293 w29 ho30 hb hg_ hnew_; clear hg_ hnew_; (first | rw [← Ny292.out] at ho30 | (simp only [Int.reduceToNat] at ho30; rw [← Ny292.out] at ho30)); have n0_ := Aside0.mk (Kd.R_lower ho30 (below_size (hbw HB.out))); have n1_ := Aside0.mk (blkb BK290.out hb); have n2_ := Aside0.mk (below_step (hbw HB.out) hb); clear BK290; clear HB; have HO294 := n0_; have BK290 := n1_; have HB := n2_; clear n0_ n1_ n2_; clear hb ho30; obtain ⟨Ao31, co31, eo31⟩ := Kd.R_slice HO294.out; subst eo31) | (go_at_call 24; (with_reducible refine (signalbenchlaw21_bitItems.calls kj3 _ _ y292 true _ ?side1 ?side2 A10.out).mono ?_); (case side1 => repeat (first | exact (Kd.R_reads' HO294.out).2.2 | (with_reducible refine Kd.C_alloc ?_ _) | (with_reducible refine Kd.C_drewN ?_ _) | (with_reducible refine Kd.C_drew ?_))); (case side2 => exact (Kd.R_reads' HO294.out).2.1); rintro e w' ⟨rfl, ⟨nd, rfl⟩⟩; have hcz32_0 : w29.cell? ⟨gb290, 0, none⟩ = some (.string a0_0) := (blk_cell BK290.out 0).trans rfl; have hcz32_1 : w29.cell? ⟨gb290, 1, none⟩ = some (.int .i64 a0_1) := (blk_cell BK290.out 1).trans rfl; have hcz32_2 : w29.cell? ⟨gb290, 2, none⟩ = some (.bool a0_2) := (blk_cell BK290.out 2).trans rfl; have hfz32_0 := blk_frozen BK290.out 0; have hfz32_1 := blk_frozen BK290.out 1; have hfz32_2 := blk_frozen BK290.out 2) | (go_at_call 21; (with_reducible refine (sync_Check.calls kj3 a0_0 a0_1 a0_2 t296 _ A12.out).mono ?_); rintro e w33 ⟨rfl, hb⟩; have n0_ := Aside0.mk (Kd.R_below (rkw HO294.out) hb); have n1_ := Aside0.mk (blkb BK290.out hb); have n2_ := Aside0.mk (below_step (hbw HB.out) hb); clear HO294; clear BK290; clear HB; have HO294 := n0_; have BK290 := n1_; have HB := n2_; clear n0_ n1_ n2_; (try clear hb); (try clear hb2); (try clear hk); (try clear hi); have hcz34_0 : w33.cell? ⟨gb290, 0, none⟩ = some (.string a0_0) := (blk_cell BK290.out 0).trans rfl; have hcz34_1 : w33.cell? ⟨gb290, 1, none⟩ = some (.int .i64 a0_1) := (blk_cell BK290.out 1).trans rfl; have hcz34_2 : w33.cell? ⟨gb290, 2, none⟩ = some (.bool a0_2) := (blk_cell BK290.out 2).trans rfl; have hfz34_0 := blk_frozen BK290.out 0; have hfz34_1 := blk_frozen BK290.out 1; have hfz34_2 := blk_frozen BK290.out 2))
          go_meet
          case rel => exact ⟨_, (true), (by first | rfl | (simp; done) | (simp [*]; done)), H', ⟨by have := HJ3.out; first | omega | exact Nat.le_refl _⟩, ⟨by (with_reducible repeat (first | refine blk_drewN ?_ _ | refine blk_drew ?_ | refine blk_alloc ?_ _)); exact BK290.out⟩, ⟨by repeat (first | (with_reducible first | exact HB.out | apply below_alloc | apply pw_below_drewN | apply below_drew1 | refine below_set ?_ GE290.out) | exact HB.out)⟩⟩
         ·rw [if_neg c28] at H
          have c28b0 : decide (a0_1 < 1) = false := decide_eq_false c28
          clear c28
          have H' := Aside0.mk H
          clear H
          go_wp2_with (first | ((with_reducible refine gate_dst (N := 16) rfl ?_); (try (refine gate_guard (by first | rfl | (go_simp; done)) ?_; dsimp only)); refine Kd.R_lit k46 _ 46 ?hg (N := 16) ?hd (xs := ([(⟨0, 0, 0, a1, 0⟩ : S46)] : List (S46))) (inner := [.int .i64 0, .int .i64 0, .int .i64 0, .string a1, .int .i64 0]) (ok := fun _ => True) (okp := fun _ => True) ?hr ?hp (fun _ hk => hk) trivial (Below.refl _ _) (Nat.le_refl _) (by simp) ?_; (case hd => rfl); (case hg => rfl); (case hr => first | (go_simp; done) | (go_simp; rfl)); (case hp => exact (Reps.c5 (show Kd.M k46 _ _ _ (⟨0, 0, 0, a1, 0⟩ : S46) [.int .i64 0, .int .i64 0, .int .i64 0, .string a1, .int .i64 0] from (k46_mkM _ _ _ (⟨0, 0, 0, a1, 0⟩ : S46) )) (Reps.none _ _))); intro v293 w35 ho36 hb hg_ hnew_; clear hg_ hnew_; (first | rw [← Ny292.out] at ho36 | (simp only [Int.reduceToNat] at ho36; rw [← Ny292.out] at ho36)); have n0_ := Aside0.mk (Kd.R_lower ho36 (below_size (hbw HB.out))); have n1_ := Aside0.mk (blkb BK290.out hb); have n2_ := Aside0.mk (below_step (hbw HB.out) hb); clear BK290; clear HB; have HO294 := n0_; have BK290 := n1_; have HB := n2_; clear n0_ n1_ n2_; clear hb ho36; obtain ⟨Ao37, co37, eo37⟩ := Kd.R_slice HO294.out; subst eo37) | (go_at_call 24; (with_reducible refine (signalbenchlaw21_bitItems.calls kj3 _ _ y292 true _ ?side1 ?side2 A10.out).mono ?_); (case side1 => repeat (first | exact (Kd.R_reads' HO294.out).2.2 | (with_reducible refine Kd.C_alloc ?_ _) | (with_reducible refine Kd.C_drewN ?_ _) | (with_reducible refine Kd.C_drew ?_))); (case side2 => exact (Kd.R_reads' HO294.out).2.1); rintro e w' ⟨rfl, ⟨nd, rfl⟩⟩; have hcz38_0 : w35.cell? ⟨gb290, 0, none⟩ = some (.string a0_0) := (blk_cell BK290.out 0).trans rfl; have hcz38_1 : w35.cell? ⟨gb290, 1, none⟩ = some (.int .i64 a0_1) := (blk_cell BK290.out 1).trans rfl; have hcz38_2 : w35.cell? ⟨gb290, 2, none⟩ = some (.bool a0_2) := (blk_cell BK290.out 2).trans rfl; have hfz38_0 := blk_frozen BK290.out 0; have hfz38_1 := blk_frozen BK290.out 1; have hfz38_2 := blk_frozen BK290.out 2) | (go_at_call 21; (with_reducible refine (sync_Check.calls kj3 a0_0 a0_1 a0_2 t296 _ A12.out).mono ?_); rintro e w39 ⟨rfl, hb⟩; have n0_ := Aside0.mk (Kd.R_below (rkw HO294.out) hb); have n1_ := Aside0.mk (blkb BK290.out hb); have n2_ := Aside0.mk (below_step (hbw HB.out) hb); clear HO294; clear BK290; clear HB; have HO294 := n0_; have BK290 := n1_; have HB := n2_; clear n0_ n1_ n2_; (try clear hb); (try clear hb2); (try clear hk); (try clear hi); have hcz40_0 : w39.cell? ⟨gb290, 0, none⟩ = some (.string a0_0) := (blk_cell BK290.out 0).trans rfl; have hcz40_1 : w39.cell? ⟨gb290, 1, none⟩ = some (.int .i64 a0_1) := (blk_cell BK290.out 1).trans rfl; have hcz40_2 : w39.cell? ⟨gb290, 2, none⟩ = some (.bool a0_2) := (blk_cell BK290.out 2).trans rfl; have hfz40_0 := blk_frozen BK290.out 0; have hfz40_1 := blk_frozen BK290.out 1; have hfz40_2 := blk_frozen BK290.out 2))
          go_meet
          case rel => exact ⟨_, (decide (a0_1 > 256)), (by first | rfl | (simp; done) | (simp [*]; done)), H', ⟨by have := HJ3.out; first | omega | exact Nat.le_refl _⟩, ⟨by (with_reducible repeat (first | refine blk_drewN ?_ _ | refine blk_drew ?_ | refine blk_alloc ?_ _)); exact BK290.out⟩, ⟨by repeat (first | (with_reducible first | exact HB.out | apply below_alloc | apply pw_below_drewN | apply below_drew1 | refine below_set ?_ GE290.out) | exact HB.out)⟩⟩
      ·rw [if_neg c13] at H
       have c13b0 : (t296 == 0) = false := beq_eq_false_iff_ne.mpr c13
       have c13b1 : (t296 != 0) = true := bne_iff_ne.mpr c13
       have H' := Aside0.mk H
       clear H
       go_wp2_with (first | ((with_reducible refine gate_dst (N := 16) rfl ?_); (try (refine gate_guard (by first | rfl | (go_simp; done)) ?_; dsimp only)); refine Kd.R_lit k46 _ 46 ?hg (N := 16) ?hd (xs := ([(⟨0, 0, 0, a1, 0⟩ : S46)] : List (S46))) (inner := [.int .i64 0, .int .i64 0, .int .i64 0, .string a1, .int .i64 0]) (ok := fun _ => True) (okp := fun _ => True) ?hr ?hp (fun _ hk => hk) trivial (Below.refl _ _) (Nat.le_refl _) (by simp) ?_; (case hd => rfl); (case hg => rfl); (case hr => first | (go_simp; done) | (go_simp; rfl)); (case hp => exact (Reps.c5 (show Kd.M k46 _ _ _ (⟨0, 0, 0, a1, 0⟩ : S46) [.int .i64 0, .int .i64 0, .int .i64 0, .string a1, .int .i64 0] from (k46_mkM _ _ _ (⟨0, 0, 0, a1, 0⟩ : S46) )) (Reps.none _ _))); intro v293 w41 ho42 hb hg_ hnew_; clear hg_ hnew_; (first | rw [← Ny292.out] at ho42 | (simp only [Int.reduceToNat] at ho42; rw [← Ny292.out] at ho42)); have n0_ := Aside0.mk (Kd.R_lower ho42 (below_size (hbw HB.out))); have n1_ := Aside0.mk (blkb BK290.out hb); have n2_ := Aside0.mk (below_step (hbw HB.out) hb); clear BK290; clear HB; have HO294 := n0_; have BK290 := n1_; have HB := n2_; clear n0_ n1_ n2_; clear hb ho42; obtain ⟨Ao43, co43, eo43⟩ := Kd.R_slice HO294.out; subst eo43) | (go_at_call 24; (with_reducible refine (signalbenchlaw21_bitItems.calls kj3 _ _ y292 true _ ?side1 ?side2 A10.out).mono ?_); (case side1 => repeat (first | exact (Kd.R_reads' HO294.out).2.2 | (with_reducible refine Kd.C_alloc ?_ _) | (with_reducible refine Kd.C_drewN ?_ _) | (with_reducible refine Kd.C_drew ?_))); (case side2 => exact (Kd.R_reads' HO294.out).2.1); rintro e w' ⟨rfl, ⟨nd, rfl⟩⟩; have hcz44_0 : w41.cell? ⟨gb290, 0, none⟩ = some (.string a0_0) := (blk_cell BK290.out 0).trans rfl; have hcz44_1 : w41.cell? ⟨gb290, 1, none⟩ = some (.int .i64 a0_1) := (blk_cell BK290.out 1).trans rfl; have hcz44_2 : w41.cell? ⟨gb290, 2, none⟩ = some (.bool a0_2) := (blk_cell BK290.out 2).trans rfl; have hfz44_0 := blk_frozen BK290.out 0; have hfz44_1 := blk_frozen BK290.out 1; have hfz44_2 := blk_frozen BK290.out 2) | (go_at_call 21; (with_reducible refine (sync_Check.calls kj3 a0_0 a0_1 a0_2 t296 _ A12.out).mono ?_); rintro e w45 ⟨rfl, hb⟩; have n0_ := Aside0.mk (Kd.R_below (rkw HO294.out) hb); have n1_ := Aside0.mk (blkb BK290.out hb); have n2_ := Aside0.mk (below_step (hbw HB.out) hb); clear HO294; clear BK290; clear HB; have HO294 := n0_; have BK290 := n1_; have HB := n2_; clear n0_ n1_ n2_; (try clear hb); (try clear hb2); (try clear hk); (try clear hi)))
       go_meet
       case rel => exact ⟨_, (true), (by first | rfl | (simp; done) | (simp [*]; done)), H', ⟨by have := HJ3.out; first | omega | exact Nat.le_refl _⟩, ⟨by (with_reducible repeat (first | refine blk_drewN ?_ _ | refine blk_drew ?_ | refine blk_alloc ?_ _)); exact BK290.out⟩, ⟨by repeat (first | (with_reducible first | exact HB.out | apply below_alloc | apply pw_below_drewN | apply below_drew1 | refine below_set ?_ GE290.out) | exact HB.out)⟩⟩
     ·replace c11 := Bool.eq_false_iff.mpr c11
      subst c11
      have H1 : (signalbenchlaw21_SyncFirst.j1 kj3 a1 true a0_0 a0_1 a0_2) = some r := by rw [if_neg (show ¬ (false = true) by decide)] at H; exact H
      clear H
      have H := H1
      clear H1
      have H' := Aside0.mk H
      clear H
      go_wp2_with (first | ((with_reducible refine gate_dst (N := 16) rfl ?_); (try (refine gate_guard (by first | rfl | (go_simp; done)) ?_; dsimp only)); refine Kd.R_lit k46 _ 46 ?hg (N := 16) ?hd (xs := ([(⟨0, 0, 0, a1, 0⟩ : S46)] : List (S46))) (inner := [.int .i64 0, .int .i64 0, .int .i64 0, .string a1, .int .i64 0]) (ok := fun _ => True) (okp := fun _ => True) ?hr ?hp (fun _ hk => hk) trivial (Below.refl _ _) (Nat.le_refl _) (by simp) ?_; (case hd => rfl); (case hg => rfl); (case hr => first | (go_simp; done) | (go_simp; rfl)); (case hp => exact (Reps.c5 (show Kd.M k46 _ _ _ (⟨0, 0, 0, a1, 0⟩ : S46) [.int .i64 0, .int .i64 0, .int .i64 0, .string a1, .int .i64 0] from (k46_mkM _ _ _ (⟨0, 0, 0, a1, 0⟩ : S46) )) (Reps.none _ _))); intro v293 w46 ho47 hb hg_ hnew_; clear hg_ hnew_; (first | rw [← Ny292.out] at ho47 | (simp only [Int.reduceToNat] at ho47; rw [← Ny292.out] at ho47)); have n0_ := Aside0.mk (Kd.R_lower ho47 (below_size (hbw HB.out))); have n1_ := Aside0.mk (blkb BK290.out hb); have n2_ := Aside0.mk (below_step (hbw HB.out) hb); clear BK290; clear HB; have HO294 := n0_; have BK290 := n1_; have HB := n2_; clear n0_ n1_ n2_; clear hb ho47; obtain ⟨Ao48, co48, eo48⟩ := Kd.R_slice HO294.out; subst eo48) | (go_at_call 24; (with_reducible refine (signalbenchlaw21_bitItems.calls kj3 _ _ y292 false _ ?side1 ?side2 A10.out).mono ?_); (case side1 => repeat (first | exact (Kd.R_reads' HO294.out).2.2 | (with_reducible refine Kd.C_alloc ?_ _) | (with_reducible refine Kd.C_drewN ?_ _) | (with_reducible refine Kd.C_drew ?_))); (case side2 => exact (Kd.R_reads' HO294.out).2.1); rintro e w' ⟨rfl, ⟨nd, rfl⟩⟩))
      go_meet
      case rel => exact ⟨_, (true), (by first | rfl | (simp; done) | (simp [*]; done)), H', ⟨by have := HJ3.out; first | omega | exact Nat.le_refl _⟩, ⟨by (with_reducible repeat (first | refine blk_drewN ?_ _ | refine blk_drew ?_ | refine blk_alloc ?_ _)); exact BK290.out⟩, ⟨by repeat (first | (with_reducible first | exact HB.out | apply below_alloc | apply pw_below_drewN | apply below_drew1 | refine below_set ?_ GE290.out) | exact HB.out)⟩⟩
   case rest =>
    clear HC8
    try clear c1
    try clear c2
    try clear p2
    try clear c5
    try clear c6
    try clear c7
    try clear c8
    try clear c9
    try clear c9b0
    try clear c9b1
    try clear c11
    try clear c13
    try clear c13b0
    try clear c13b1
    try clear c14
    try clear c14b0
    try clear c14b1
    try clear c21
    try clear c21b0
    try clear c21b1
    try clear c28
    try clear c28b0
    try clear hcz18_0
    try clear hcz18_1
    try clear hcz18_2
    try clear hcz20_0
    try clear hcz20_1
    try clear hcz20_2
    try clear hcz25_0
    try clear hcz25_1
    try clear hcz25_2
    try clear hcz27_0
    try clear hcz27_1
    try clear hcz27_2
    try clear hcz32_0
    try clear hcz32_1
    try clear hcz32_2
    try clear hcz34_0
    try clear hcz34_1
    try clear hcz34_2
    try clear hcz38_0
    try clear hcz38_1
    try clear hcz38_2
    try clear hcz40_0
    try clear hcz40_1
    try clear hcz40_2
    try clear hcz44_0
    try clear hcz44_1
    try clear hcz44_2
    try clear hfz18_0
    try clear hfz18_1
    try clear hfz18_2
    try clear hfz20_0
    try clear hfz20_1
    try clear hfz20_2
    try clear hfz25_0
    try clear hfz25_1
    try clear hfz25_2
    try clear hfz27_0
    try clear hfz27_1
    try clear hfz27_2
    try clear hfz32_0
    try clear hfz32_1
    try clear hfz32_2
    try clear hfz34_0
    try clear hfz34_1
    try clear hfz34_2
    try clear hfz38_0
    try clear hfz38_1
    try clear hfz38_2
    try clear hfz40_0
    try clear hfz40_1
    try clear hfz40_2
    try clear hfz44_0
    try clear hfz44_1
    try clear hfz44_2
    try clear p2
    obtain ⟨kq, x46_7, rfl, HA, HJ7, BK290, HB⟩ := hcut
    cases kq with
    | zero => exact absurd HA.out (by simp [signalbenchlaw21_SyncFirst.j1])
    | succ kj7 =>
     have H := HA.out
     clear HA
     simp only [signalbenchlaw21_SyncFirst.j1] at H
     have HC49 := Aside0.mk H
     clear H
     go_upto_if 46 with (fail)
     go_cut [] (fun wc => ∃ (kq : Nat), Aside0 (signalbenchlaw21_SyncFirst.j2 kq a1 a0_0 a0_1 a0_2 = some r) ∧ Aside0 (kq ≤ kj7) ∧ Aside0 (wc.heap[gb290]? = some (.cells #[.string a0_0, .int .i64 a0_1, .bool a0_2] 23 (0, 0))) ∧ Aside0 (Below w.heap.size w wc))
     case first =>
      have H := HC49.out
      clear HC49
      by_cases c50 : x46_7 = true
      ·subst c50
       have H1 : (some true) = some r := by rw [if_pos rfl] at H; exact H
       clear H
       have H := H1
       clear H1
       obtain rfl := Option.some.inj H
       go_wp2
       go_ret
       exact ⟨by first | rfl | (simp [errW_none, errW_some] <;> rfl) | (simp [*, errW_none, errW_some] <;> rfl), by repeat (first | (with_reducible first | exact HB.out | apply below_alloc | apply pw_below_drewN | apply below_drew1 | refine below_set ?_ GE290.out) | exact HB.out)⟩
      ·replace c50 := Bool.eq_false_iff.mpr c50
       subst c50
       have H1 : (signalbenchlaw21_SyncFirst.j2 kj7 a1 a0_0 a0_1 a0_2) = some r := by rw [if_neg (show ¬ (false = true) by decide)] at H; exact H
       clear H
       have H := H1
       clear H1
       have H' := Aside0.mk H
       clear H
       go_wp2
       go_meet
       case rel => exact ⟨_, H', ⟨by have := HJ3.out; have := HJ7.out; first | omega | exact Nat.le_refl _⟩, ⟨by (with_reducible repeat (first | refine blk_drewN ?_ _ | refine blk_drew ?_ | refine blk_alloc ?_ _)); exact BK290.out⟩, ⟨by repeat (first | (with_reducible first | exact HB.out | apply below_alloc | apply pw_below_drewN | apply below_drew1 | refine below_set ?_ GE290.out) | exact HB.out)⟩⟩
     case rest =>
      clear HC49
      try clear c1
      try clear c2
      try clear p2
      try clear c5
      try clear c6
      try clear c7
      try clear c8
      try clear c9
      try clear c9b0
      try clear c9b1
      try clear c11
      try clear c13
      try clear c13b0
      try clear c13b1
      try clear c14
      try clear c14b0
      try clear c14b1
      try clear c21
      try clear c21b0
      try clear c21b1
      try clear c28
      try clear c28b0
      try clear c50
      try clear hcz18_0
      try clear hcz18_1
      try clear hcz18_2
      try clear hcz20_0
      try clear hcz20_1
      try clear hcz20_2
      try clear hcz25_0
      try clear hcz25_1
      try clear hcz25_2
      try clear hcz27_0
      try clear hcz27_1
      try clear hcz27_2
      try clear hcz32_0
      try clear hcz32_1
      try clear hcz32_2
      try clear hcz34_0
      try clear hcz34_1
      try clear hcz34_2
      try clear hcz38_0
      try clear hcz38_1
      try clear hcz38_2
      try clear hcz40_0
      try clear hcz40_1
      try clear hcz40_2
      try clear hcz44_0
      try clear hcz44_1
      try clear hcz44_2
      try clear hfz18_0
      try clear hfz18_1
      try clear hfz18_2
      try clear hfz20_0
      try clear hfz20_1
      try clear hfz20_2
      try clear hfz25_0
      try clear hfz25_1
      try clear hfz25_2
      try clear hfz27_0
      try clear hfz27_1
      try clear hfz27_2
      try clear hfz32_0
      try clear hfz32_1
      try clear hfz32_2
      try clear hfz34_0
      try clear hfz34_1
      try clear hfz34_2
      try clear hfz38_0
      try clear hfz38_1
      try clear hfz38_2
      try clear hfz40_0
      try clear hfz40_1
      try clear hfz40_2
      try clear hfz44_0
      try clear hfz44_1
      try clear hfz44_2
      try clear p2
      obtain ⟨kq, HA, HJ48, BK290, HB⟩ := hcut
      cases kq with
      | zero => exact absurd HA.out (by simp [signalbenchlaw21_SyncFirst.j2])
      | succ kj48 =>
       have H := HA.out
       clear HA
       simp only [signalbenchlaw21_SyncFirst.j2] at H
       obtain ⟨y297, hy297⟩ : ∃ y_ : List (S46), y_ = (([(⟨0, 0, 0, a1, 0⟩ : S46)] : List (S46))) := ⟨_, rfl⟩
       replace H : ((signalbenchlaw21_events.f kj48 y297 1).bind fun t300 => ((sync_Decode.f kj48 a0_0 a0_1 a0_2 t300).bind fun t303 => (signalbenchlaw21_SyncFirst.l0 kj48 a1 t303 0 a0_0 a0_1 a0_2))) = some r := by first | (rw [hy297]; with_reducible exact H) | (have H2_ := (Option.bind_some _ _).symm.trans H; rw [hy297]; with_reducible exact H2_) | (have H2_ := (Option.bind_some _ _).symm.trans H; with_reducible exact H2_) | with_reducible exact H | (rw [hy297]; exact H) | exact H
       have Ny297 := Aside0.mk hy297
       clear hy297
       replace H := Option.bind_eq_some_iff.mp H
       obtain ⟨t300, A510, H⟩ := H
       replace H : ((sync_Decode.f kj48 a0_0 a0_1 a0_2 t300).bind fun t303 => (signalbenchlaw21_SyncFirst.l0 kj48 a1 t303 0 a0_0 a0_1 a0_2)) = some r := H
       have A51 := Aside0.mk A510
       clear A510
       replace H := Option.bind_eq_some_iff.mp H
       obtain ⟨t303, A520, H⟩ := H
       replace H : (signalbenchlaw21_SyncFirst.l0 kj48 a1 t303 0 a0_0 a0_1 a0_2) = some r := H
       have A52 := Aside0.mk A520
       clear A520
       have HC53 := Aside0.mk H
       clear H
       try go_wp2
       have n0_ := Aside0.mk (blk_drew BK290.out)
       have n1_ := Aside0.mk (below_drew1 HB.out)
       clear BK290
       clear HB
       have BK290 := n0_
       have HB := n1_
       clear n0_ n1_
       refine start_ (n := 7) (S := fun w' => w'.cell? ⟨gb290, 0, none⟩ = some (.string a0_0) ∧ w'.cell? ⟨gb290, 1, none⟩ = some (.int .i64 a0_1) ∧ w'.cell? ⟨gb290, 2, none⟩ = some (.bool a0_2)) (ds := []) #[false, false, false, false, false, false, false] (by kernel_rfl) rfl rfl ⟨(blk_cell BK290.out 0).trans rfl, (blk_cell BK290.out 1).trans rfl, (blk_cell BK290.out 2).trans rfl⟩ (fun hHeld => ?_)
       generalize wc.drew = w54 at BK290 HB hHeld ⊢
       refine pure_ (i := 1) (N := some 48) (v := ?_) (a' := ?_) #[false, true, false, false, false, false, false] rfl rfl (by kernel_rfl) (fun _ _ _ h => h) (Or.inl ⟨by rfl, ?_⟩) ?_ ?_
       rotate_left
       ·intro w'
        go_simp
        with_reducible rfl
       rotate_left
       ·simp only [Act.put, nrm]
        rfl
       refine pure_ (i := 2) (N := some 49) (v := ?_) (a' := ?_) #[false, true, true, false, false, false, false] rfl rfl (by kernel_rfl) (fun _ _ _ h => h) (Or.inl ⟨by rfl, ?_⟩) ?_ ?_
       rotate_left
       ·intro w'
        go_simp
        with_reducible rfl
       rotate_left
       ·simp only [Act.put, nrm]
        rfl
       refine take_ (i := 0) (N := some 47) (v := ?_) (a' := ?_) #[true, true, true, false, false, false, false] rfl rfl (by kernel_rfl) (fun _ _ _ h => h) (Or.inl ⟨by rfl, ?_⟩) hHeld ?_ ?_
       rotate_left
       ·rintro w' ⟨s0, s1, s2⟩
        go_simp
        with_reducible rfl
       rotate_left
       ·simp only [Act.put, nrm]
        rfl
       refine one_ (i := 3) (N := some 50) #[true, true, true, true, false, false, false] rfl rfl (by kernel_rfl) (by decide) (fun K hK => ?_)
       refine Kd.R_lit_step k46 _ 46 ?hg (N := 50) ?hd (xs := ([(⟨0, 0, 0, a1, 0⟩ : S46)] : List (S46))) (inner := [.int .i64 0, .int .i64 0, .int .i64 0, .string a1, .int .i64 0]) (ok := fun _ => True) (okp := fun _ => True) ?hr ?hp (fun _ hk => hk) trivial (Below.refl _ _) (Nat.le_refl _) (by simp) ?_; (case hd => rfl); (case hg => rfl); (case hr => first | (go_simp; done) | (go_simp; rfl)); (case hp => exact (Reps.c5 (show Kd.M k46 _ _ _ (⟨0, 0, 0, a1, 0⟩ : S46) [.int .i64 0, .int .i64 0, .int .i64 0, .string a1, .int .i64 0] from (k46_mkM _ _ _ (⟨0, 0, 0, a1, 0⟩ : S46) )) (Reps.none _ _)))
       intro v298 w55 ho56 hb hg_ hnew_
       clear hg_ hnew_
       (first | rw [← Ny297.out] at ho56 | (simp only [Int.reduceToNat] at ho56; rw [← Ny297.out] at ho56))
       have n0_ := Aside0.mk (Kd.R_lower ho56 (below_size (hbw HB.out)))
       have n1_ := Aside0.mk (blkb BK290.out hb)
       have n2_ := Aside0.mk (below_step (hbw HB.out) hb)
       clear BK290
       clear HB
       have HO299 := n0_
       have BK290 := n1_
       have HB := n2_
       clear n0_ n1_ n2_
       clear hb ho56
       obtain ⟨Ao57, co57, eo57⟩ := Kd.R_slice HO299.out
       (first | subst eo57 | (injection eo57 with f1_ f2_ f3_; have f4_ := f1_.symm; have f5_ := f3_.symm; clear f1_ f2_ f3_; subst f4_; subst f5_))
       refine hK.out _ _ ⟨(blk_cell BK290.out 0).trans rfl, (blk_cell BK290.out 1).trans rfl, (blk_cell BK290.out 2).trans rfl⟩ (fun hHeld => ?_)
       clear hK K
       refine norm_ (a' := ?_) ?_ ?_
       rotate_left
       ·show Act.put _ (some 50) _ = _
        simp only [Act.put, nrm]
        rfl
       refine one_ (i := 4) (N := some 51) #[true, true, true, true, true, false, false] rfl rfl (by kernel_rfl) (by decide) (fun K hK => ?_)
       refine goes_ Try.func25 (by kernel_rfl) rfl #[.slice Ao57 y297.length co57, .int .i64 1] (by rfl) rfl rfl (by (try simp only [List.map_toArray, List.map_cons, List.map_nil]); first | done | rfl | (simp only [List.length_drop, List.length_take]; rfl)) ?_
       with_reducible refine (signalbenchlaw21_events.calls kj48 _ _ y297 1 t300 _ ?side1 ?side2 A51.out).mono ?_
       (case side1 => repeat (first | exact (Kd.R_reads' HO299.out).2.2 | (with_reducible refine Kd.C_alloc ?_ _) | (with_reducible refine Kd.C_drewN ?_ _) | (with_reducible refine Kd.C_drew ?_)))
       (case side2 => exact (Kd.R_reads' HO299.out).2.1)
       rintro e w58 ⟨v301, rfl, ho0, hb⟩
       refine ⟨_, rfl, ?_⟩
       have n0_ := Aside0.mk (Kd.R_below (rkw HO299.out) hb)
       have n1_ := Aside0.mk (Kd.R_lower ho0 (below_size (hbw HB.out)))
       have n2_ := Aside0.mk (blkb BK290.out hb)
       have n3_ := Aside0.mk (below_step (hbw HB.out) hb)
       clear HO299
       clear BK290
       clear HB
       have HO299 := n0_
       have HO302 := n1_
       have BK290 := n2_
       have HB := n3_
       clear n0_ n1_ n2_ n3_
       (try clear hb)
       (try clear hb2)
       (try clear hk)
       (try clear hi)
       (try clear ho0)
       obtain ⟨Ao59, co59, eo59⟩ := Kd.R_slice HO302.out
       (first | subst eo59 | (injection eo59 with f1_ f2_ f3_; have f4_ := f1_.symm; have f5_ := f3_.symm; clear f1_ f2_ f3_; subst f4_; subst f5_))
       refine hK.out _ _ ⟨(blk_cell BK290.out 0).trans rfl, (blk_cell BK290.out 1).trans rfl, (blk_cell BK290.out 2).trans rfl⟩ (fun hHeld => ?_)
       clear hK K
       refine norm_ (a' := ?_) ?_ ?_
       rotate_left
       ·show Act.put _ (some 51) _ = _
        simp only [Act.put, nrm]
        rfl
       refine one_ (i := 5) (N := some 52) #[true, true, true, true, true, true, false] rfl rfl (by kernel_rfl) (by decide) (fun K hK => ?_)
       refine goes_ Try.func16 (by kernel_rfl) rfl #[.agg #[.string a0_0, .int .i64 a0_1, .bool a0_2], .slice Ao59 t300.length co59] (by rfl) rfl rfl (by (try simp only [List.map_toArray, List.map_cons, List.map_nil]); first | done | rfl | (simp only [List.length_drop, List.length_take]; rfl)) ?_
       with_reducible refine (sync_Decode.calls kj48 a0_0 a0_1 a0_2 _ _ t300 t303 _ ?side1 ?side2 A52.out).mono ?_
       (case side1 => repeat (first | exact (Kd.R_reads' HO302.out).2.2 | (with_reducible refine Kd.C_alloc ?_ _) | (with_reducible refine Kd.C_drewN ?_ _) | (with_reducible refine Kd.C_drew ?_)))
       (case side2 => exact (Kd.R_reads' HO302.out).2.1)
       rintro e w60 ⟨v304, rfl, ho0, hb⟩
       refine ⟨_, rfl, ?_⟩
       have n0_ := Aside0.mk (Kd.R_below (rkw HO299.out) hb)
       have n1_ := Aside0.mk (Kd.R_elder' (rkw HO302.out) (Kd.R_base ho0) hb)
       have n2_ := Aside0.mk (Kd.R_lower (Kd.R_new' ho0 (Kd.R_lt (rkw HO302.out))) (below_size (hbw HB.out)))
       have n3_ := Aside0.mk (blkb BK290.out hb)
       have n4_ := Aside0.mk (below_step (hbw HB.out) hb)
       clear HO299
       clear HO302
       clear BK290
       clear HB
       have HO299 := n0_
       have HO302 := n1_
       have HO305 := n2_
       have BK290 := n3_
       have HB := n4_
       clear n0_ n1_ n2_ n3_ n4_
       (try clear hb)
       (try clear hb2)
       (try clear hk)
       (try clear hi)
       (try clear ho0)
       refine hK.out _ _ ⟨(blk_cell BK290.out 0).trans rfl, (blk_cell BK290.out 1).trans rfl, (blk_cell BK290.out 2).trans rfl⟩ (fun hHeld => ?_)
       clear hK K
       refine norm_ (a' := ?_) ?_ ?_
       rotate_left
       ·show Act.put _ (some 52) _ = _
        simp only [Act.put, nrm]
        rfl
       refine pure_ (i := 6) (N := some 5) (v := ?_) (a' := ?_) #[true, true, true, true, true, true, true] rfl rfl (by kernel_rfl) (fun _ _ _ h => h) (Or.inl ⟨by rfl, ?_⟩) ?_ ?_
       rotate_left
       ·intro w'
        go_simp
        with_reducible rfl
       rotate_left
       ·simp only [Act.put, nrm]
        rfl
       refine done_ (by kernel_rfl) ?_
       go_upto_block 0 with (fail)
       go_cut [6] (fun v6 wc => ∃ (kq : Nat) (x6_52 : Int), v6 = .int .i64 x6_52 ∧ Aside0 (signalbenchlaw21_SyncFirst.j4 kq a1 t303 x6_52 a0_0 a0_1 a0_2 = some r) ∧ Aside0 (kq ≤ kj48) ∧ Aside0 (Kd.R k32 32 wc w.heap.size (fun _ => True) v304 t303) ∧ Aside0 (wc.heap[gb290]? = some (.cells #[.string a0_0, .int .i64 a0_1, .bool a0_2] 23 (0, 0))) ∧ Aside0 (Below w.heap.size w wc))
       case first =>
        have H := HC53.out
        clear HC53
        have H' := Aside0.mk H
        clear H
        go_wp2
        go_loopg [6] kj48 (fun kq v6 w' => ∃ (x6_4 : Int), v6 = .int .i64 x6_4 ∧ Aside0 (signalbenchlaw21_SyncFirst.l0 kq a1 t303 x6_4 a0_0 a0_1 a0_2 = some r) ∧ Aside0 (kq ≤ kj48) ∧ Aside0 (Kd.R k32 32 w' w.heap.size (fun _ => True) v304 t303) ∧ Aside0 (w'.heap[gb290]? = some (.cells #[.string a0_0, .int .i64 a0_1, .bool a0_2] 23 (0, 0))) ∧ Aside0 (Below w.heap.size w w'))
        case atStart => exact ⟨(0), (by first | rfl | (simp; done) | (simp [*]; done)), H', ⟨Nat.le_refl _⟩, ⟨by (with_reducible repeat (first | apply Kd.R_alloc | apply Kd.R_drewN | apply Kd.R_drew)); exact Kd.R_mono HO305.out (fun _ hk => trivial)⟩, ⟨by (with_reducible repeat (first | refine blk_drewN ?_ _ | refine blk_drew ?_ | refine blk_alloc ?_ _)); exact BK290.out⟩, ⟨by repeat (first | (with_reducible first | exact HB.out | apply below_alloc | apply pw_below_drewN | apply below_drew1 | refine below_set ?_ GE290.out) | exact HB.out)⟩⟩
        case round =>
         clear H'
         try clear c1
         try clear c2
         try clear p2
         try clear c5
         try clear c6
         try clear c7
         try clear c8
         try clear c9
         try clear c9b0
         try clear c9b1
         try clear c11
         try clear c13
         try clear c13b0
         try clear c13b1
         try clear c14
         try clear c14b0
         try clear c14b1
         try clear c16
         try clear c21
         try clear c21b0
         try clear c21b1
         try clear c25
         try clear c28
         try clear c28b0
         try clear c50
         try clear hcz18_0
         try clear hcz18_1
         try clear hcz18_2
         try clear hcz20_0
         try clear hcz20_1
         try clear hcz20_2
         try clear hcz25_0
         try clear hcz25_1
         try clear hcz25_2
         try clear hcz27_0
         try clear hcz27_1
         try clear hcz27_2
         try clear hcz32_0
         try clear hcz32_1
         try clear hcz32_2
         try clear hcz34_0
         try clear hcz34_1
         try clear hcz34_2
         try clear hcz38_0
         try clear hcz38_1
         try clear hcz38_2
         try clear hcz40_0
         try clear hcz40_1
         try clear hcz40_2
         try clear hcz44_0
         try clear hcz44_1
         try clear hcz44_2
         try clear hfz18_0
         try clear hfz18_1
         try clear hfz18_2
         try clear hfz20_0
         try clear hfz20_1
         try clear hfz20_2
         try clear hfz25_0
         try clear hfz25_1
         try clear hfz25_2
         try clear hfz27_0
         try clear hfz27_1
         try clear hfz27_2
         try clear hfz32_0
         try clear hfz32_1
         try clear hfz32_2
         try clear hfz34_0
         try clear hfz34_1
         try clear hfz34_2
         try clear hfz38_0
         try clear hfz38_1
         try clear hfz38_2
         try clear hfz40_0
         try clear hfz40_1
         try clear hfz40_2
         try clear hfz44_0
         try clear hfz44_1
         try clear hfz44_2
         try clear p2
         obtain ⟨x6_4, rfl, HA, HK4, HO_5, BK290, HB⟩ := hrel
         cases gk with
         | zero => exact absurd HA.out (by simp [signalbenchlaw21_SyncFirst.l0])
         | succ k4 =>
          have H := HA.out
          clear HA
          simp only [signalbenchlaw21_SyncFirst.l0] at H
          by_cases c61 : (wrap64 (x6_4 + (a0_0.size : Int))) ≤ (a1.size : Int)
          ·rw [if_pos c61] at H
           have c61b0 : decide ((wrap64 (x6_4 + (a0_0.size : Int))) ≤ (a1.size : Int)) = true := decide_eq_true c61
           clear c61
           (first | rw [c61b0] | (simp only [i64_w, i32_w]; rw [c61b0]) | skip)
           by_cases c62 : 0 ≤ x6_4
           ·rw [if_pos c62] at H
            have c62b0 := eq_true c62
            have c62b1 : decide (0 ≤ x6_4) = true := decide_eq_true c62
            clear c62
            by_cases c63 : x6_4 ≤ (wrap64 (x6_4 + (a0_0.size : Int)))
            ·rw [if_pos c63] at H
             have c63b0 := eq_true c63
             have c63b1 : decide (x6_4 ≤ (wrap64 (x6_4 + (a0_0.size : Int)))) = true := decide_eq_true c63
             have c64b0 := eq_true (of_decide_eq_true (by first | (with_reducible assumption) | assumption) : (wrap64 (x6_4 + (a0_0.size : Int))) ≤ (a1.size : Int))
             by_cases c65 : (a1.extract (x6_4 : Int).toNat ((wrap64 (x6_4 + (a0_0.size : Int))) : Int).toNat).toList = a0_0.toList
             ·rw [if_pos c65] at H
              have c65b0 : ((a1.extract (x6_4 : Int).toNat ((wrap64 (x6_4 + (a0_0.size : Int))) : Int).toNat).toList == a0_0.toList) = true := beq_iff_eq.mpr c65
              have c65b1 : ((a1.extract (x6_4 : Int).toNat ((wrap64 (x6_4 + (a0_0.size : Int))) : Int).toNat).toList != a0_0.toList) = false := bne_eq_false_iff_eq.mpr c65
              clear c65
              have H' := Aside0.mk H
              clear H
              try go_wp2
              have n0_ := Aside0.mk (Kd.R_drew HO_5.out)
              have n1_ := Aside0.mk (blk_drew BK290.out)
              have n2_ := Aside0.mk (below_drew1 HB.out)
              clear HO_5
              clear BK290
              clear HB
              have HO_5 := n0_
              have BK290 := n1_
              have HB := n2_
              clear n0_ n1_ n2_
              refine start_ (n := 21) (S := fun w' => w'.cell? ⟨gb290, 0, none⟩ = some (.string a0_0) ∧ w'.cell? ⟨gb290, 1, none⟩ = some (.int .i64 a0_1) ∧ w'.cell? ⟨gb290, 2, none⟩ = some (.bool a0_2)) (ds := []) #[false, false, false, false, false, false, false, false, false, false, false, false, false, false, false, false, false, false, false, false, false] (by kernel_rfl) rfl rfl ⟨(blk_cell BK290.out 0).trans rfl, (blk_cell BK290.out 1).trans rfl, (blk_cell BK290.out 2).trans rfl⟩ (fun hHeld => ?_); refine with_tabW signalbenchlaw21_SyncFirst.tab7 signalbenchlaw21_SyncFirst.bits7 (fun HT_ HW_ => ?_)
              generalize wr.drew = w66 at HO_5 BK290 HB hHeld ⊢
              refine pstep 0 (some 53) #[true, false, false, false, false, false, false, false, false, false, false, false, false, false, false, false, false, false, false, false, false] HT_.out ?_
              refine pstep 1 (some 54) #[true, true, false, false, false, false, false, false, false, false, false, false, false, false, false, false, false, false, false, false, false] HT_.out ?_
              refine pstep 5 (some 58) #[true, true, false, false, false, true, false, false, false, false, false, false, false, false, false, false, false, false, false, false, false] HT_.out ?_
              refine pstep 6 (some 59) #[true, true, false, false, false, true, true, false, false, false, false, false, false, false, false, false, false, false, false, false, false] HT_.out ?_
              refine take_ (i := 2) (N := some 55) (v := ?_) (a' := ?_) #[true, true, true, false, false, true, true, false, false, false, false, false, false, false, false, false, false, false, false, false, false] rfl rfl (take_ofW HT_.out HW_.out (by kernel_rfl)) (fun _ _ _ h => h) (Or.inl ⟨by rfl, ?_⟩) hHeld ?_ ?_
              rotate_left
              ·rintro w' ⟨s0, s1, s2⟩
               go_simp
               with_reducible rfl
              rotate_left
              ·simp only [Act.put, nrm]
               rfl
              refine pstep 3 (some 56) #[true, true, true, true, false, true, true, false, false, false, false, false, false, false, false, false, false, false, false, false, false] HT_.out ?_
              refine pstep 4 (some 57) #[true, true, true, true, true, true, true, false, false, false, false, false, false, false, false, false, false, false, false, false, false] HT_.out ?_
              refine pstep 7 (some 60) #[true, true, true, true, true, true, true, true, false, false, false, false, false, false, false, false, false, false, false, false, false] HT_.out ?_
              refine pstep 8 (some 61) #[true, true, true, true, true, true, true, true, true, false, false, false, false, false, false, false, false, false, false, false, false] HT_.out ?_
              refine pstep 9 (some 62) #[true, true, true, true, true, true, true, true, true, true, false, false, false, false, false, false, false, false, false, false, false] HT_.out ?_
              refine pstep 10 (some 63) #[true, true, true, true, true, true, true, true, true, true, true, false, false, false, false, false, false, false, false, false, false] HT_.out ?_
              refine pstep 11 (some 64) #[true, true, true, true, true, true, true, true, true, true, true, true, false, false, false, false, false, false, false, false, false] HT_.out ?_
              refine pstep 12 (some 65) #[true, true, true, true, true, true, true, true, true, true, true, true, true, false, false, false, false, false, false, false, false] HT_.out ?_
              refine pstep 17 (some 70) #[true, true, true, true, true, true, true, true, true, true, true, true, true, false, false, false, false, true, false, false, false] HT_.out ?_
              refine take_ (i := 13) (N := some 66) (v := ?_) (a' := ?_) #[true, true, true, true, true, true, true, true, true, true, true, true, true, true, false, false, false, true, false, false, false] rfl rfl (take_ofW HT_.out HW_.out (by kernel_rfl)) (fun _ _ _ h => h) (Or.inl ⟨by rfl, ?_⟩) hHeld ?_ ?_
              rotate_left
              ·rintro w' ⟨s0, s1, s2⟩
               go_simp
               with_reducible rfl
              rotate_left
              ·simp only [Act.put, nrm]
               rfl
              refine pstep 14 (some 67) #[true, true, true, true, true, true, true, true, true, true, true, true, true, true, true, false, false, true, false, false, false] HT_.out ?_
              refine pstep 15 (some 68) #[true, true, true, true, true, true, true, true, true, true, true, true, true, true, true, true, false, true, false, false, false] HT_.out ?_
              refine pstep 16 (some 69) #[true, true, true, true, true, true, true, true, true, true, true, true, true, true, true, true, true, true, false, false, false] HT_.out ?_
              refine take_ (i := 18) (N := some 71) (v := ?_) (a' := ?_) #[true, true, true, true, true, true, true, true, true, true, true, true, true, true, true, true, true, true, true, false, false] rfl rfl (take_ofW HT_.out HW_.out (by kernel_rfl)) (fun _ _ _ h => h) (Or.inl ⟨by rfl, ?_⟩) hHeld ?_ ?_
              rotate_left
              ·rintro w' ⟨s0, s1, s2⟩
               go_simp
               with_reducible rfl
              rotate_left
              ·simp only [Act.put, nrm]
               rfl
              refine pstep 19 (some 72) #[true, true, true, true, true, true, true, true, true, true, true, true, true, true, true, true, true, true, true, true, false] HT_.out ?_
              refine pstep 20 (some 73) #[true, true, true, true, true, true, true, true, true, true, true, true, true, true, true, true, true, true, true, true, true] HT_.out ?_
              refine done_ (done_of HT_.out (by kernel_rfl)) ?_
              try go_wp2
              go_meet
              case rel => exact ⟨_, (x6_4), (by first | rfl | (simp; done) | (simp [*]; done)), H', ⟨by have := HJ3.out; have := HJ7.out; have := HJ48.out; have := HK4.out; first | omega | exact Nat.le_refl _⟩, ⟨by (with_reducible repeat (first | apply Kd.R_alloc | apply Kd.R_drewN | apply Kd.R_drew)); exact HO_5.out⟩, ⟨by (with_reducible repeat (first | refine blk_drewN ?_ _ | refine blk_drew ?_ | refine blk_alloc ?_ _)); exact BK290.out⟩, ⟨by repeat (first | (with_reducible first | exact HB.out | apply below_alloc | apply pw_below_drewN | apply below_drew1 | refine below_set ?_ GE290.out) | exact HB.out)⟩⟩
             ·rw [if_neg c65] at H
              have c65b0 : ((a1.extract (x6_4 : Int).toNat ((wrap64 (x6_4 + (a0_0.size : Int))) : Int).toNat).toList == a0_0.toList) = false := beq_eq_false_iff_ne.mpr c65
              have c65b1 : ((a1.extract (x6_4 : Int).toNat ((wrap64 (x6_4 + (a0_0.size : Int))) : Int).toNat).toList != a0_0.toList) = true := bne_iff_ne.mpr c65
              have H' := Aside0.mk H
              clear H
              try go_wp2
              have n0_ := Aside0.mk (Kd.R_drew HO_5.out)
              have n1_ := Aside0.mk (blk_drew BK290.out)
              have n2_ := Aside0.mk (below_drew1 HB.out)
              clear HO_5
              clear BK290
              clear HB
              have HO_5 := n0_
              have BK290 := n1_
              have HB := n2_
              clear n0_ n1_ n2_
              refine start_ (n := 21) (S := fun w' => w'.cell? ⟨gb290, 0, none⟩ = some (.string a0_0) ∧ w'.cell? ⟨gb290, 1, none⟩ = some (.int .i64 a0_1) ∧ w'.cell? ⟨gb290, 2, none⟩ = some (.bool a0_2)) (ds := []) #[false, false, false, false, false, false, false, false, false, false, false, false, false, false, false, false, false, false, false, false, false] (by kernel_rfl) rfl rfl ⟨(blk_cell BK290.out 0).trans rfl, (blk_cell BK290.out 1).trans rfl, (blk_cell BK290.out 2).trans rfl⟩ (fun hHeld => ?_); refine with_tabW signalbenchlaw21_SyncFirst.tab7 signalbenchlaw21_SyncFirst.bits7 (fun HT_ HW_ => ?_)
              generalize wr.drew = w67 at HO_5 BK290 HB hHeld ⊢
              refine pstep 0 (some 53) #[true, false, false, false, false, false, false, false, false, false, false, false, false, false, false, false, false, false, false, false, false] HT_.out ?_
              refine pstep 1 (some 54) #[true, true, false, false, false, false, false, false, false, false, false, false, false, false, false, false, false, false, false, false, false] HT_.out ?_
              refine pstep 5 (some 58) #[true, true, false, false, false, true, false, false, false, false, false, false, false, false, false, false, false, false, false, false, false] HT_.out ?_
              refine pstep 6 (some 59) #[true, true, false, false, false, true, true, false, false, false, false, false, false, false, false, false, false, false, false, false, false] HT_.out ?_
              refine take_ (i := 2) (N := some 55) (v := ?_) (a' := ?_) #[true, true, true, false, false, true, true, false, false, false, false, false, false, false, false, false, false, false, false, false, false] rfl rfl (take_ofW HT_.out HW_.out (by kernel_rfl)) (fun _ _ _ h => h) (Or.inl ⟨by rfl, ?_⟩) hHeld ?_ ?_
              rotate_left
              ·rintro w' ⟨s0, s1, s2⟩
               go_simp
               with_reducible rfl
              rotate_left
              ·simp only [Act.put, nrm]
               rfl
              refine pstep 3 (some 56) #[true, true, true, true, false, true, true, false, false, false, false, false, false, false, false, false, false, false, false, false, false] HT_.out ?_
              refine pstep 4 (some 57) #[true, true, true, true, true, true, true, false, false, false, false, false, false, false, false, false, false, false, false, false, false] HT_.out ?_
              refine pstep 7 (some 60) #[true, true, true, true, true, true, true, true, false, false, false, false, false, false, false, false, false, false, false, false, false] HT_.out ?_
              refine pstep 8 (some 61) #[true, true, true, true, true, true, true, true, true, false, false, false, false, false, false, false, false, false, false, false, false] HT_.out ?_
              refine pstep 9 (some 62) #[true, true, true, true, true, true, true, true, true, true, false, false, false, false, false, false, false, false, false, false, false] HT_.out ?_
              refine pstep 10 (some 63) #[true, true, true, true, true, true, true, true, true, true, true, false, false, false, false, false, false, false, false, false, false] HT_.out ?_
              refine pstep 11 (some 64) #[true, true, true, true, true, true, true, true, true, true, true, true, false, false, false, false, false, false, false, false, false] HT_.out ?_
              refine pstep 12 (some 65) #[true, true, true, true, true, true, true, true, true, true, true, true, true, false, false, false, false, false, false, false, false] HT_.out ?_
              refine pstep 17 (some 70) #[true, true, true, true, true, true, true, true, true, true, true, true, true, false, false, false, false, true, false, false, false] HT_.out ?_
              refine take_ (i := 13) (N := some 66) (v := ?_) (a' := ?_) #[true, true, true, true, true, true, true, true, true, true, true, true, true, true, false, false, false, true, false, false, false] rfl rfl (take_ofW HT_.out HW_.out (by kernel_rfl)) (fun _ _ _ h => h) (Or.inl ⟨by rfl, ?_⟩) hHeld ?_ ?_
              rotate_left
              ·rintro w' ⟨s0, s1, s2⟩
               go_simp
               with_reducible rfl
              rotate_left
              ·simp only [Act.put, nrm]
               rfl
              refine pstep 14 (some 67) #[true, true, true, true, true, true, true, true, true, true, true, true, true, true, true, false, false, true, false, false, false] HT_.out ?_
              refine pstep 15 (some 68) #[true, true, true, true, true, true, true, true, true, true, true, true, true, true, true, true, false, true, false, false, false] HT_.out ?_
              refine pstep 16 (some 69) #[true, true, true, true, true, true, true, true, true, true, true, true, true, true, true, true, true, true, false, false, false] HT_.out ?_
              refine take_ (i := 18) (N := some 71) (v := ?_) (a' := ?_) #[true, true, true, true, true, true, true, true, true, true, true, true, true, true, true, true, true, true, true, false, false] rfl rfl (take_ofW HT_.out HW_.out (by kernel_rfl)) (fun _ _ _ h => h) (Or.inl ⟨by rfl, ?_⟩) hHeld ?_ ?_
              rotate_left
              ·rintro w' ⟨s0, s1, s2⟩
               go_simp
               with_reducible rfl
              rotate_left
              ·simp only [Act.put, nrm]
               rfl
              refine pstep 19 (some 72) #[true, true, true, true, true, true, true, true, true, true, true, true, true, true, true, true, true, true, true, true, false] HT_.out ?_
              refine pstep 20 (some 73) #[true, true, true, true, true, true, true, true, true, true, true, true, true, true, true, true, true, true, true, true, true] HT_.out ?_
              refine done_ (done_of HT_.out (by kernel_rfl)) ?_
              try go_wp2
              go_roundg k4
              case measure => have := HJ3.out; have := HJ7.out; have := HJ48.out; have := HK4.out; omega
              case rel => exact ⟨(wrap64 (x6_4 + 1)), (by first | rfl | (simp; done) | (simp [*]; done)), H', ⟨by have := HJ3.out; have := HJ7.out; have := HJ48.out; have := HK4.out; omega⟩, ⟨by (with_reducible repeat (first | apply Kd.R_alloc | apply Kd.R_drewN | apply Kd.R_drew)); exact HO_5.out⟩, ⟨by (with_reducible repeat (first | refine blk_drewN ?_ _ | refine blk_drew ?_ | refine blk_alloc ?_ _)); exact BK290.out⟩, ⟨by repeat (first | (with_reducible first | exact HB.out | apply below_alloc | apply pw_below_drewN | apply below_drew1 | refine below_set ?_ GE290.out) | exact HB.out)⟩⟩
            ·rw [if_neg c63] at H
             exact absurd H (by simp)
           ·rw [if_neg c62] at H
            exact absurd H (by simp)
          ·rw [if_neg c61] at H
           have c61b0 : decide ((wrap64 (x6_4 + (a0_0.size : Int))) ≤ (a1.size : Int)) = false := decide_eq_false c61
           clear c61
           (first | rw [c61b0] | (simp only [i64_w, i32_w]; rw [c61b0]) | skip)
           have H' := Aside0.mk H
           clear H
           try go_wp2
           have n0_ := Aside0.mk (Kd.R_drew HO_5.out)
           have n1_ := Aside0.mk (blk_drew BK290.out)
           have n2_ := Aside0.mk (below_drew1 HB.out)
           clear HO_5
           clear BK290
           clear HB
           have HO_5 := n0_
           have BK290 := n1_
           have HB := n2_
           clear n0_ n1_ n2_
           refine start_ (n := 21) (S := fun w' => w'.cell? ⟨gb290, 0, none⟩ = some (.string a0_0) ∧ w'.cell? ⟨gb290, 1, none⟩ = some (.int .i64 a0_1) ∧ w'.cell? ⟨gb290, 2, none⟩ = some (.bool a0_2)) (ds := []) #[false, false, false, false, false, false, false, false, false, false, false, false, false, false, false, false, false, false, false, false, false] (by kernel_rfl) rfl rfl ⟨(blk_cell BK290.out 0).trans rfl, (blk_cell BK290.out 1).trans rfl, (blk_cell BK290.out 2).trans rfl⟩ (fun hHeld => ?_); refine with_tabW signalbenchlaw21_SyncFirst.tab7 signalbenchlaw21_SyncFirst.bits7 (fun HT_ HW_ => ?_)
           generalize wr.drew = w68 at HO_5 BK290 HB hHeld ⊢
           refine pstep 0 (some 53) #[true, false, false, false, false, false, false, false, false, false, false, false, false, false, false, false, false, false, false, false, false] HT_.out ?_
           refine pstep 1 (some 54) #[true, true, false, false, false, false, false, false, false, false, false, false, false, false, false, false, false, false, false, false, false] HT_.out ?_
           refine pstep 5 (some 58) #[true, true, false, false, false, true, false, false, false, false, false, false, false, false, false, false, false, false, false, false, false] HT_.out ?_
           refine pstep 6 (some 59) #[true, true, false, false, false, true, true, false, false, false, false, false, false, false, false, false, false, false, false, false, false] HT_.out ?_
           refine take_ (i := 2) (N := some 55) (v := ?_) (a' := ?_) #[true, true, true, false, false, true, true, false, false, false, false, false, false, false, false, false, false, false, false, false, false] rfl rfl (take_ofW HT_.out HW_.out (by kernel_rfl)) (fun _ _ _ h => h) (Or.inl ⟨by rfl, ?_⟩) hHeld ?_ ?_
           rotate_left
           ·rintro w' ⟨s0, s1, s2⟩
            go_simp
            with_reducible rfl
           rotate_left
           ·simp only [Act.put, nrm]
            rfl
           refine pstep 3 (some 56) #[true, true, true, true, false, true, true, false, false, false, false, false, false, false, false, false, false, false, false, false, false] HT_.out ?_
           refine pstep 4 (some 57) #[true, true, true, true, true, true, true, false, false, false, false, false, false, false, false, false, false, false, false, false, false] HT_.out ?_
           refine pstep 7 (some 60) #[true, true, true, true, true, true, true, true, false, false, false, false, false, false, false, false, false, false, false, false, false] HT_.out ?_
           refine pstep 8 (some 61) #[true, true, true, true, true, true, true, true, true, false, false, false, false, false, false, false, false, false, false, false, false] HT_.out ?_
           refine pure_ (i := 9) (N := some 62) (v := undef) (a' := ?_) #[true, true, true, true, true, true, true, true, true, true, false, false, false, false, false, false, false, false, false, false, false] rfl rfl (any_of HT_.out (by kernel_rfl)) (fun _ _ _ h => h) (Or.inr ⟨by rfl, rfl⟩) ?_ ?_
           rotate_left
           ·simp only [Act.put, nrm]
            rfl
           refine pure_ (i := 10) (N := some 63) (v := undef) (a' := ?_) #[true, true, true, true, true, true, true, true, true, true, true, false, false, false, false, false, false, false, false, false, false] rfl rfl (any_of HT_.out (by kernel_rfl)) (fun _ _ _ h => h) (Or.inr ⟨by rfl, rfl⟩) ?_ ?_
           rotate_left
           ·simp only [Act.put, nrm]
            rfl
           refine pure_ (i := 11) (N := some 64) (v := undef) (a' := ?_) #[true, true, true, true, true, true, true, true, true, true, true, true, false, false, false, false, false, false, false, false, false] rfl rfl (any_of HT_.out (by kernel_rfl)) (fun _ _ _ h => h) (Or.inr ⟨by rfl, rfl⟩) ?_ ?_
           rotate_left
           ·simp only [Act.put, nrm]
            rfl
           refine pure_ (i := 12) (N := some 65) (v := undef) (a' := ?_) #[true, true, true, true, true, true, true, true, true, true, true, true, true, false, false, false, false, false, false, false, false] rfl rfl (any_of HT_.out (by kernel_rfl)) (fun _ _ _ h => h) (Or.inr ⟨by rfl, rfl⟩) ?_ ?_
           rotate_left
           ·simp only [Act.put, nrm]
            rfl
           refine pure_ (i := 13) (N := some 66) (v := undef) (a' := ?_) #[true, true, true, true, true, true, true, true, true, true, true, true, true, true, false, false, false, false, false, false, false] rfl rfl (any_of HT_.out (by kernel_rfl)) (fun _ _ _ h => h) (Or.inr ⟨by rfl, rfl⟩) ?_ ?_
           rotate_left
           ·simp only [Act.put, nrm]
            rfl
           refine pure_ (i := 14) (N := some 67) (v := undef) (a' := ?_) #[true, true, true, true, true, true, true, true, true, true, true, true, true, true, true, false, false, false, false, false, false] rfl rfl (any_of HT_.out (by kernel_rfl)) (fun _ _ _ h => h) (Or.inr ⟨by rfl, rfl⟩) ?_ ?_
           rotate_left
           ·simp only [Act.put, nrm]
            rfl
           refine pure_ (i := 15) (N := some 68) (v := undef) (a' := ?_) #[true, true, true, true, true, true, true, true, true, true, true, true, true, true, true, true, false, false, false, false, false] rfl rfl (any_of HT_.out (by kernel_rfl)) (fun _ _ _ h => h) (Or.inr ⟨by rfl, rfl⟩) ?_ ?_
           rotate_left
           ·simp only [Act.put, nrm]
            rfl
           refine pure_ (i := 16) (N := some 69) (v := undef) (a' := ?_) #[true, true, true, true, true, true, true, true, true, true, true, true, true, true, true, true, true, false, false, false, false] rfl rfl (any_of HT_.out (by kernel_rfl)) (fun _ _ _ h => h) (Or.inr ⟨by rfl, rfl⟩) ?_ ?_
           rotate_left
           ·simp only [Act.put, nrm]
            rfl
           refine pure_ (i := 17) (N := some 70) (v := undef) (a' := ?_) #[true, true, true, true, true, true, true, true, true, true, true, true, true, true, true, true, true, true, false, false, false] rfl rfl (any_of HT_.out (by kernel_rfl)) (fun _ _ _ h => h) (Or.inr ⟨by rfl, rfl⟩) ?_ ?_
           rotate_left
           ·simp only [Act.put, nrm]
            rfl
           refine pure_ (i := 18) (N := some 71) (v := undef) (a' := ?_) #[true, true, true, true, true, true, true, true, true, true, true, true, true, true, true, true, true, true, true, false, false] rfl rfl (any_of HT_.out (by kernel_rfl)) (fun _ _ _ h => h) (Or.inr ⟨by rfl, rfl⟩) ?_ ?_
           rotate_left
           ·simp only [Act.put, nrm]
            rfl
           refine pure_ (i := 19) (N := some 72) (v := undef) (a' := ?_) #[true, true, true, true, true, true, true, true, true, true, true, true, true, true, true, true, true, true, true, true, false] rfl rfl (any_of HT_.out (by kernel_rfl)) (fun _ _ _ h => h) (Or.inr ⟨by rfl, rfl⟩) ?_ ?_
           rotate_left
           ·simp only [Act.put, nrm]
            rfl
           refine pstep 20 (some 73) #[true, true, true, true, true, true, true, true, true, true, true, true, true, true, true, true, true, true, true, true, true] HT_.out ?_
           refine done_ (done_of HT_.out (by kernel_rfl)) ?_
           try go_wp2
           go_meet
           case rel => exact ⟨_, (x6_4), (by first | rfl | (simp; done) | (simp [*]; done)), H', ⟨by have := HJ3.out; have := HJ7.out; have := HJ48.out; have := HK4.out; first | omega | exact Nat.le_refl _⟩, ⟨by (with_reducible repeat (first | apply Kd.R_alloc | apply Kd.R_drewN | apply Kd.R_drew)); exact HO_5.out⟩, ⟨by (with_reducible repeat (first | refine blk_drewN ?_ _ | refine blk_drew ?_ | refine blk_alloc ?_ _)); exact BK290.out⟩, ⟨by repeat (first | (with_reducible first | exact HB.out | apply below_alloc | apply pw_below_drewN | apply below_drew1 | refine below_set ?_ GE290.out) | exact HB.out)⟩⟩
       case rest =>
        clear HC53
        try clear p2
        try clear c6
        try clear p6
        try clear c61
        try clear c61b0
        try clear c62
        try clear c62b0
        try clear c62b1
        try clear c63
        try clear c63b0
        try clear c63b1
        try clear c64
        try clear c64b0
        try clear p64
        try clear c65
        try clear c65b0
        try clear c65b1
        try clear hcz32_1
        try clear hcz32_2
        try clear hcz34_0
        try clear hcz34_1
        try clear hcz34_2
        try clear hcz38_0
        try clear hcz38_1
        try clear hcz38_2
        try clear hcz40_0
        try clear hcz40_1
        try clear hcz40_2
        try clear hcz44_0
        try clear hcz44_1
        try clear hcz44_2
        try clear hfz18_0
        try clear hfz18_1
        try clear hfz18_2
        try clear hfz20_0
        try clear hfz20_1
        try clear hfz20_2
        try clear hfz25_0
        try clear hfz25_1
        try clear hfz25_2
        try clear hfz27_0
        try clear hfz27_1
        try clear hfz27_2
        try clear hfz32_0
        try clear hfz32_1
        try clear hfz32_2
        try clear hfz34_0
        try clear hfz34_1
        try clear hfz34_2
        try clear hfz38_0
        try clear hfz38_1
        try clear hfz38_2
        try clear hfz40_0
        try clear hfz40_1
        try clear hfz40_2
        try clear hfz44_0
        try clear hfz44_1
        try clear hfz44_2
        try clear p2
        obtain ⟨kq, x6_52, rfl, HA, HJ52, HO_5, BK290, HB⟩ := hcut
        cases kq with
        | zero => exact absurd HA.out (by simp [signalbenchlaw21_SyncFirst.j4])
        | succ kj52 =>
         have H := HA.out
         clear HA
         simp only [signalbenchlaw21_SyncFirst.j4] at H
         by_cases c69 : (wrap64 (x6_52 + (a0_0.size : Int))) > (a1.size : Int)
         ·rw [if_pos c69] at H
          have c69b0 : decide ((a1.size : Int) < (wrap64 (x6_52 + (a0_0.size : Int)))) = true := decide_eq_true c69
          clear c69
          obtain rfl := Option.some.inj H
          have hcz70_0 : wc.cell? ⟨gb290, 0, none⟩ = some (.string a0_0) := (blk_cell BK290.out 0).trans rfl
          have hcz70_1 : wc.cell? ⟨gb290, 1, none⟩ = some (.int .i64 a0_1) := (blk_cell BK290.out 1).trans rfl
          have hcz70_2 : wc.cell? ⟨gb290, 2, none⟩ = some (.bool a0_2) := (blk_cell BK290.out 2).trans rfl
          have hfz70_0 := blk_frozen BK290.out 0
          have hfz70_1 := blk_frozen BK290.out 1
          have hfz70_2 := blk_frozen BK290.out 2
          obtain ⟨Ao71, co71, eo71⟩ := Kd.R_slice HO_5.out
          subst eo71
          go_wp2
          go_ret
          exact ⟨by first | rfl | (simp [errW_none, errW_some] <;> rfl) | (simp [*, errW_none, errW_some] <;> rfl), by repeat (first | (with_reducible first | exact HB.out | apply below_alloc | apply pw_below_drewN | apply below_drew1 | refine below_set ?_ GE290.out) | exact HB.out)⟩
         ·rw [if_neg c69] at H
          have c69b0 : decide ((a1.size : Int) < (wrap64 (x6_52 + (a0_0.size : Int)))) = false := decide_eq_false c69
          clear c69
          have HC72 := Aside0.mk H
          clear H
          have hcz73_0 : wc.cell? ⟨gb290, 0, none⟩ = some (.string a0_0) := (blk_cell BK290.out 0).trans rfl
          have hcz73_1 : wc.cell? ⟨gb290, 1, none⟩ = some (.int .i64 a0_1) := (blk_cell BK290.out 1).trans rfl
          have hcz73_2 : wc.cell? ⟨gb290, 2, none⟩ = some (.bool a0_2) := (blk_cell BK290.out 2).trans rfl
          have hfz73_0 := blk_frozen BK290.out 0
          have hfz73_1 := blk_frozen BK290.out 1
          have hfz73_2 := blk_frozen BK290.out 2
          go_upto_region 11 with (fail)
          go_cut [97] (fun v97 wc => ∃ (kq : Nat) (x97_71 : Bool), v97 = .bool x97_71 ∧ Aside0 (signalbenchlaw21_SyncFirst.j5 kq a1 t303 x6_52 x97_71 a0_0 a0_1 a0_2 = some r) ∧ Aside0 (kq ≤ kj52) ∧ Aside0 (Kd.R k32 32 wc w.heap.size (fun _ => True) v304 t303) ∧ Aside0 (wc.heap[gb290]? = some (.cells #[.string a0_0, .int .i64 a0_1, .bool a0_2] 23 (0, 0))) ∧ Aside0 (Below w.heap.size w wc))
          case first =>
           have H := HC72.out
           clear HC72
           by_cases c74 : (t303.length : Int) = 0
           ·rw [if_pos c74] at H
            have c74b0 : ((t303.length : Int) == 0) = true := beq_iff_eq.mpr c74
            have c74b1 : ((t303.length : Int) != 0) = false := bne_eq_false_iff_eq.mpr c74
            clear c74
            (first | rw [c74b0] | (simp only [i64_w, i32_w]; rw [c74b0]) | skip)
            have H' := Aside0.mk H
            clear H
            obtain ⟨Ao75, co75, eo75⟩ := Kd.R_slice HO_5.out
            subst eo75
            go_wp2
            go_meet
            case rel => exact ⟨_, (true), (by first | rfl | (simp; done) | (simp [*]; done)), H', ⟨by have := HJ3.out; have := HJ7.out; have := HJ48.out; have := HJ52.out; first | omega | exact Nat.le_refl _⟩, ⟨by (with_reducible repeat (first | apply Kd.R_alloc | apply Kd.R_drewN | apply Kd.R_drew)); exact HO_5.out⟩, ⟨by (with_reducible repeat (first | refine blk_drewN ?_ _ | refine blk_drew ?_ | refine blk_alloc ?_ _)); exact BK290.out⟩, ⟨by repeat (first | (with_reducible first | exact HB.out | apply below_alloc | apply pw_below_drewN | apply below_drew1 | refine below_set ?_ GE290.out) | exact HB.out)⟩⟩
           ·rw [if_neg c74] at H
            have c74b0 : ((t303.length : Int) == 0) = false := beq_eq_false_iff_ne.mpr c74
            have c74b1 : ((t303.length : Int) != 0) = true := bne_iff_ne.mpr c74
            have c74b2 : ¬ (t303 = []) := fun h_ => c74 (by rw [h_]; rfl)
            (first | rw [c74b0] | (simp only [i64_w, i32_w]; rw [c74b0]) | skip)
            by_cases c76 : 0 < (t303.length : Int)
            ·rw [if_pos c76] at H
             have c76b0 : decide (0 < (t303.length : Int)) = true := decide_eq_true c76
             have c76b1 : decide (0 < t303.length) = true := decide_eq_true (by omega)
             clear c76
             have H' := Aside0.mk H
             clear H
             obtain ⟨Ao77, co77, eo77⟩ := Kd.R_slice HO_5.out
             subst eo77
             have p306 : 0 ≤ (0 : Int) := (by omega)
             have q306 : 0 < (t303.length : Int) := of_decide_eq_true (by first | (with_reducible assumption) | assumption)
             obtain ⟨ad306, e306, hx306_0, hx306_1, hx306_2, hx306_3, hx306_4, hx306_5, hx306_6⟩ := at_T32 (Kd.R_reads' HO_5.out).2.2 0 p306 q306
             cases e306
             have qi306 : (0 < t303.length) = True := eq_true (by omega)
             (try rw [show ((0 : Int)).toNat = 0 from rfl] at hx306_0)
             (try rw [show 0 * 7 = 0 from rfl] at hx306_0)
             (try rw [Addr.add_zero'] at hx306_0)
             (try rw [show ((0 : Int)).toNat = 0 from rfl] at hx306_1)
             (try rw [show 0 * 7 = 0 from rfl] at hx306_1)
             (try rw [Addr.add_zero'] at hx306_1)
             (try rw [show ((0 : Int)).toNat = 0 from rfl] at hx306_2)
             (try rw [show 0 * 7 = 0 from rfl] at hx306_2)
             (try rw [Addr.add_zero'] at hx306_2)
             (try rw [show ((0 : Int)).toNat = 0 from rfl] at hx306_3)
             (try rw [show 0 * 7 = 0 from rfl] at hx306_3)
             (try rw [Addr.add_zero'] at hx306_3)
             (try rw [show ((0 : Int)).toNat = 0 from rfl] at hx306_4)
             (try rw [show 0 * 7 = 0 from rfl] at hx306_4)
             (try rw [Addr.add_zero'] at hx306_4)
             (try rw [show ((0 : Int)).toNat = 0 from rfl] at hx306_5)
             (try rw [show 0 * 7 = 0 from rfl] at hx306_5)
             (try rw [Addr.add_zero'] at hx306_5)
             (try rw [show ((0 : Int)).toNat = 0 from rfl] at hx306_6)
             (try rw [show 0 * 7 = 0 from rfl] at hx306_6)
             (try rw [Addr.add_zero'] at hx306_6)
             replace p306 := eq_true p306
             replace q306 := eq_true q306
             go_wp2
             go_meet
             case rel => exact ⟨_, ((((rd_T32 t303 0).f1) != x6_52)), (by first | rfl | (simp; done) | (simp [*]; done)), H', ⟨by have := HJ3.out; have := HJ7.out; have := HJ48.out; have := HJ52.out; first | omega | exact Nat.le_refl _⟩, ⟨by (with_reducible repeat (first | apply Kd.R_alloc | apply Kd.R_drewN | apply Kd.R_drew)); exact HO_5.out⟩, ⟨by (with_reducible repeat (first | refine blk_drewN ?_ _ | refine blk_drew ?_ | refine blk_alloc ?_ _)); exact BK290.out⟩, ⟨by repeat (first | (with_reducible first | exact HB.out | apply below_alloc | apply pw_below_drewN | apply below_drew1 | refine below_set ?_ GE290.out) | exact HB.out)⟩⟩
            ·rw [if_neg c76] at H
             exact absurd H (by simp)
          case rest =>
           clear HC72
           try clear p2
           try clear p3
           try clear q3
           try clear hx3
           try clear qi3
           try clear c6
           try clear p6
           try clear c7
           try clear p30
           try clear q30
           try clear hx30
           try clear qi30
           try clear c61
           try clear c61b0
           try clear c62
           try clear c62b0
           try clear c62b1
           try clear c63
           try clear c63b0
           try clear c63b1
           try clear c64
           try clear c64b0
           try clear p64
           try clear c65
           try clear c65b0
           try clear c65b1
           try clear c69
           try clear c69b0
           try clear c74
           try clear c74b0
           try clear c74b1
           try clear c74b2
           try clear c76
           try clear c76b0
           try clear c76b1
           try clear hcz32_1
           try clear hcz32_2
           try clear hcz34_0
           try clear hcz34_1
           try clear hcz34_2
           try clear hcz38_0
           try clear hcz38_1
           try clear hcz38_2
           try clear hcz40_0
           try clear hcz40_1
           try clear hcz40_2
           try clear hcz44_0
           try clear hcz44_1
           try clear hcz44_2
           try clear hcz70_0
           try clear hcz70_1
           try clear hcz70_2
           try clear hcz73_0
           try clear hcz73_1
           try clear hcz73_2
           try clear hfz18_0
           try clear hfz18_1
           try clear hfz18_2
           try clear hfz20_0
           try clear hfz20_1
           try clear hfz20_2
           try clear hfz25_0
           try clear hfz25_1
           try clear hfz25_2
           try clear hfz27_0
           try clear hfz27_1
           try clear hfz27_2
           try clear hfz32_0
           try clear hfz32_1
           try clear hfz32_2
           try clear hfz34_0
           try clear hfz34_1
           try clear hfz34_2
           try clear hfz38_0
           try clear hfz38_1
           try clear hfz38_2
           try clear hfz40_0
           try clear hfz40_1
           try clear hfz40_2
           try clear hfz44_0
           try clear hfz44_1
           try clear hfz44_2
           try clear hfz70_0
           try clear hfz70_1
           try clear hfz70_2
           try clear hfz73_0
           try clear hfz73_1
           try clear hfz73_2
           try clear hx306_0
           try clear hx306_1
           try clear hx306_2
           try clear hx306_3
           try clear hx306_4
           try clear hx306_5
           try clear hx306_6
           try clear p2
           try clear p306
           try clear p6
           try clear p64
           try clear q306
           obtain ⟨kq, x97_71, rfl, HA, HJ71, HO_5, BK290, HB⟩ := hcut
           cases kq with
           | zero => exact absurd HA.out (by simp [signalbenchlaw21_SyncFirst.j5])
           | succ kj71 =>
            have H := HA.out
            clear HA
            simp only [signalbenchlaw21_SyncFirst.j5] at H
            by_cases c78 : x97_71 = true
            ·subst c78
             have H1 : (some false) = some r := by rw [if_pos rfl] at H; exact H
             clear H
             have H := H1
             clear H1
             obtain rfl := Option.some.inj H
             go_wp2
             go_ret
             exact ⟨by first | rfl | (simp [errW_none, errW_some] <;> rfl) | (simp [*, errW_none, errW_some] <;> rfl), by repeat (first | (with_reducible first | exact HB.out | apply below_alloc | apply pw_below_drewN | apply below_drew1 | refine below_set ?_ GE290.out) | exact HB.out)⟩
            ·replace c78 := Bool.eq_false_iff.mpr c78
             subst c78
             have H1 : (if (wrap64 ((wrap64 (x6_52 + (a0_0.size : Int))) + (wrap64 (8 * a0_1)))) > (a1.size : Int) then (if (t303.length : Int) = 1 then (if 0 < (t303.length : Int) then (some (((rd_T32 t303 0).f0) == 5 && (((rd_T32 t303 0).f1) == x6_52 && (((rd_T32 t303 0).f2) == (a1.size : Int) && (((rd_T32 t303 0).f3) == 0 && (((rd_T32 t303 0).f4) == 0 && ((((rd_T32 t303 0).f5).toList) == ([] : List UInt8) && (((rd_T32 t303 0).f6) == 7)))))))) else (none)) else (some false)) else (if 0 < (t303.length : Int) then (if ((rd_T32 t303 0).f6) = 0 then (if ((rd_T32 t303 0).f2) = (wrap64 ((wrap64 (x6_52 + (a0_0.size : Int))) + (wrap64 (8 * a0_1)))) then (some ((((rd_T32 t303 0).f5).size : Int) == a0_1)) else (some false)) else (some false)) else (none))) = some r := by rw [if_neg (show ¬ (false = true) by decide)] at H; exact H
             clear H
             have H := H1
             clear H1
             by_cases c79 : (wrap64 ((wrap64 (x6_52 + (a0_0.size : Int))) + (wrap64 (8 * a0_1)))) > (a1.size : Int)
             ·rw [if_pos c79] at H
              have c79b0 : decide ((a1.size : Int) < (wrap64 ((wrap64 (x6_52 + (a0_0.size : Int))) + (wrap64 (8 * a0_1))))) = true := decide_eq_true c79
              clear c79
              by_cases c80 : (t303.length : Int) = 1
              ·rw [if_pos c80] at H
               have c80b0 : ((t303.length : Int) == 1) = true := beq_iff_eq.mpr c80
               have c80b1 : ((t303.length : Int) != 1) = false := bne_eq_false_iff_eq.mpr c80
               clear c80
               by_cases c81 : 0 < (t303.length : Int)
               ·rw [if_pos c81] at H
                have c81b0 : decide (0 < (t303.length : Int)) = true := decide_eq_true c81
                have c81b1 : decide (0 < t303.length) = true := decide_eq_true (by omega)
                clear c81
                obtain rfl := Option.some.inj H
                have hcz82_0 : wc.cell? ⟨gb290, 0, none⟩ = some (.string a0_0) := (blk_cell BK290.out 0).trans rfl
                have hcz82_1 : wc.cell? ⟨gb290, 1, none⟩ = some (.int .i64 a0_1) := (blk_cell BK290.out 1).trans rfl
                have hcz82_2 : wc.cell? ⟨gb290, 2, none⟩ = some (.bool a0_2) := (blk_cell BK290.out 2).trans rfl
                have hfz82_0 := blk_frozen BK290.out 0
                have hfz82_1 := blk_frozen BK290.out 1
                have hfz82_2 := blk_frozen BK290.out 2
                obtain ⟨Ao83, co83, eo83⟩ := Kd.R_slice HO_5.out
                subst eo83
                have p307 : 0 ≤ (0 : Int) := (by omega)
                have q307 : 0 < (t303.length : Int) := of_decide_eq_true (by first | (with_reducible assumption) | assumption)
                obtain ⟨ad307, e307, hx307_0, hx307_1, hx307_2, hx307_3, hx307_4, hx307_5, hx307_6⟩ := at_T32 (Kd.R_reads' HO_5.out).2.2 0 p307 q307
                cases e307
                have qi307 : (0 < t303.length) = True := eq_true (by omega)
                (try rw [show ((0 : Int)).toNat = 0 from rfl] at hx307_0)
                (try rw [show 0 * 7 = 0 from rfl] at hx307_0)
                (try rw [Addr.add_zero'] at hx307_0)
                (try rw [show ((0 : Int)).toNat = 0 from rfl] at hx307_1)
                (try rw [show 0 * 7 = 0 from rfl] at hx307_1)
                (try rw [Addr.add_zero'] at hx307_1)
                (try rw [show ((0 : Int)).toNat = 0 from rfl] at hx307_2)
                (try rw [show 0 * 7 = 0 from rfl] at hx307_2)
                (try rw [Addr.add_zero'] at hx307_2)
                (try rw [show ((0 : Int)).toNat = 0 from rfl] at hx307_3)
                (try rw [show 0 * 7 = 0 from rfl] at hx307_3)
                (try rw [Addr.add_zero'] at hx307_3)
                (try rw [show ((0 : Int)).toNat = 0 from rfl] at hx307_4)
                (try rw [show 0 * 7 = 0 from rfl] at hx307_4)
                (try rw [Addr.add_zero'] at hx307_4)
                (try rw [show ((0 : Int)).toNat = 0 from rfl] at hx307_5)
                (try rw [show 0 * 7 = 0 from rfl] at hx307_5)
                (try rw [Addr.add_zero'] at hx307_5)
                (try rw [show ((0 : Int)).toNat = 0 from rfl] at hx307_6)
                (try rw [show 0 * 7 = 0 from rfl] at hx307_6)
                (try rw [Addr.add_zero'] at hx307_6)
                replace p307 := eq_true p307
                replace q307 := eq_true q307
                go_wp2
                go_ret
                exact ⟨by first | rfl | (simp [errW_none, errW_some] <;> rfl) | (simp [*, errW_none, errW_some] <;> rfl), by repeat (first | (with_reducible first | exact HB.out | apply below_alloc | apply pw_below_drewN | apply below_drew1 | refine below_set ?_ GE290.out) | exact HB.out)⟩
               ·rw [if_neg c81] at H
                exact absurd H (by simp)
              ·rw [if_neg c80] at H
               have c80b0 : ((t303.length : Int) == 1) = false := beq_eq_false_iff_ne.mpr c80
               have c80b1 : ((t303.length : Int) != 1) = true := bne_iff_ne.mpr c80
               obtain rfl := Option.some.inj H
               have hcz84_0 : wc.cell? ⟨gb290, 0, none⟩ = some (.string a0_0) := (blk_cell BK290.out 0).trans rfl
               have hcz84_1 : wc.cell? ⟨gb290, 1, none⟩ = some (.int .i64 a0_1) := (blk_cell BK290.out 1).trans rfl
               have hcz84_2 : wc.cell? ⟨gb290, 2, none⟩ = some (.bool a0_2) := (blk_cell BK290.out 2).trans rfl
               have hfz84_0 := blk_frozen BK290.out 0
               have hfz84_1 := blk_frozen BK290.out 1
               have hfz84_2 := blk_frozen BK290.out 2
               obtain ⟨Ao85, co85, eo85⟩ := Kd.R_slice HO_5.out
               subst eo85
               go_wp2
               go_ret
               exact ⟨by first | rfl | (simp [errW_none, errW_some] <;> rfl) | (simp [*, errW_none, errW_some] <;> rfl), by repeat (first | (with_reducible first | exact HB.out | apply below_alloc | apply pw_below_drewN | apply below_drew1 | refine below_set ?_ GE290.out) | exact HB.out)⟩
             ·rw [if_neg c79] at H
              have c79b0 : decide ((a1.size : Int) < (wrap64 ((wrap64 (x6_52 + (a0_0.size : Int))) + (wrap64 (8 * a0_1))))) = false := decide_eq_false c79
              clear c79
              by_cases c86 : 0 < (t303.length : Int)
              ·rw [if_pos c86] at H
               have c86b0 : decide (0 < (t303.length : Int)) = true := decide_eq_true c86
               have c86b1 : decide (0 < t303.length) = true := decide_eq_true (by omega)
               clear c86
               by_cases c87 : ((rd_T32 t303 0).f6) = 0
               ·rw [if_pos c87] at H
                have c87b0 : (((rd_T32 t303 0).f6) == 0) = true := beq_iff_eq.mpr c87
                have c87b1 : (((rd_T32 t303 0).f6) != 0) = false := bne_eq_false_iff_eq.mpr c87
                clear c87
                by_cases c88 : ((rd_T32 t303 0).f2) = (wrap64 ((wrap64 (x6_52 + (a0_0.size : Int))) + (wrap64 (8 * a0_1))))
                ·rw [if_pos c88] at H
                 have c88b0 : (((rd_T32 t303 0).f2) == (wrap64 ((wrap64 (x6_52 + (a0_0.size : Int))) + (wrap64 (8 * a0_1))))) = true := beq_iff_eq.mpr c88
                 have c88b1 : (((rd_T32 t303 0).f2) != (wrap64 ((wrap64 (x6_52 + (a0_0.size : Int))) + (wrap64 (8 * a0_1))))) = false := bne_eq_false_iff_eq.mpr c88
                 clear c88
                 obtain rfl := Option.some.inj H
                 have hcz89_0 : wc.cell? ⟨gb290, 0, none⟩ = some (.string a0_0) := (blk_cell BK290.out 0).trans rfl
                 have hcz89_1 : wc.cell? ⟨gb290, 1, none⟩ = some (.int .i64 a0_1) := (blk_cell BK290.out 1).trans rfl
                 have hcz89_2 : wc.cell? ⟨gb290, 2, none⟩ = some (.bool a0_2) := (blk_cell BK290.out 2).trans rfl
                 have hfz89_0 := blk_frozen BK290.out 0
                 have hfz89_1 := blk_frozen BK290.out 1
                 have hfz89_2 := blk_frozen BK290.out 2
                 try go_wp2
                 have n0_ := Aside0.mk (Kd.R_drew HO_5.out)
                 have n1_ := Aside0.mk (blk_drew BK290.out)
                 have n2_ := Aside0.mk (below_drew1 HB.out)
                 clear HO_5
                 clear BK290
                 clear HB
                 have HO_5 := n0_
                 have BK290 := n1_
                 have HB := n2_
                 clear n0_ n1_ n2_
                 obtain ⟨Ao91, co91, eo91⟩ := Kd.R_slice HO_5.out
                 (first | subst eo91 | (injection eo91 with f1_ f2_ f3_; have f4_ := f1_.symm; have f5_ := f3_.symm; clear f1_ f2_ f3_; subst f4_; subst f5_))
                 have p308 : 0 ≤ (0 : Int) := (by omega)
                 have q308 : 0 < (t303.length : Int) := of_decide_eq_true (by first | (with_reducible assumption) | assumption)
                 obtain ⟨ad308, e308, hx308_0, hx308_1, hx308_2, hx308_3, hx308_4, hx308_5, hx308_6⟩ := at_T32 (Kd.R_reads' HO_5.out).2.2 0 p308 q308
                 cases e308
                 have qi308 : (0 < t303.length) = True := eq_true (by omega)
                 (try rw [show ((0 : Int)).toNat = 0 from rfl] at hx308_0)
                 (try rw [show 0 * 7 = 0 from rfl] at hx308_0)
                 (try rw [Addr.add_zero'] at hx308_0)
                 (try rw [show ((0 : Int)).toNat = 0 from rfl] at hx308_1)
                 (try rw [show 0 * 7 = 0 from rfl] at hx308_1)
                 (try rw [Addr.add_zero'] at hx308_1)
                 (try rw [show ((0 : Int)).toNat = 0 from rfl] at hx308_2)
                 (try rw [show 0 * 7 = 0 from rfl] at hx308_2)
                 (try rw [Addr.add_zero'] at hx308_2)
                 (try rw [show ((0 : Int)).toNat = 0 from rfl] at hx308_3)
                 (try rw [show 0 * 7 = 0 from rfl] at hx308_3)
                 (try rw [Addr.add_zero'] at hx308_3)
                 (try rw [show ((0 : Int)).toNat = 0 from rfl] at hx308_4)
                 (try rw [show 0 * 7 = 0 from rfl] at hx308_4)
                 (try rw [Addr.add_zero'] at hx308_4)
                 (try rw [show ((0 : Int)).toNat = 0 from rfl] at hx308_5)
                 (try rw [show 0 * 7 = 0 from rfl] at hx308_5)
                 (try rw [Addr.add_zero'] at hx308_5)
                 (try rw [show ((0 : Int)).toNat = 0 from rfl] at hx308_6)
                 (try rw [show 0 * 7 = 0 from rfl] at hx308_6)
                 (try rw [Addr.add_zero'] at hx308_6)
                 replace p308 := eq_true p308
                 replace q308 := eq_true q308
                 have p309 : 0 ≤ (0 : Int) := (by omega)
                 have q309 : 0 < (t303.length : Int) := of_decide_eq_true (by first | (with_reducible assumption) | assumption)
                 obtain ⟨ad309, e309, hx309_0, hx309_1, hx309_2, hx309_3, hx309_4, hx309_5, hx309_6⟩ := at_T32 (Kd.R_reads' HO_5.out).2.2 0 p309 q309
                 obtain rfl : ad308 = ad309 := (by injection e309)
                 have qi309 : (0 < t303.length) = True := eq_true (by omega)
                 (try rw [show ((0 : Int)).toNat = 0 from rfl] at hx309_0)
                 (try rw [show 0 * 7 = 0 from rfl] at hx309_0)
                 (try rw [Addr.add_zero'] at hx309_0)
                 (try rw [show ((0 : Int)).toNat = 0 from rfl] at hx309_1)
                 (try rw [show 0 * 7 = 0 from rfl] at hx309_1)
                 (try rw [Addr.add_zero'] at hx309_1)
                 (try rw [show ((0 : Int)).toNat = 0 from rfl] at hx309_2)
                 (try rw [show 0 * 7 = 0 from rfl] at hx309_2)
                 (try rw [Addr.add_zero'] at hx309_2)
                 (try rw [show ((0 : Int)).toNat = 0 from rfl] at hx309_3)
                 (try rw [show 0 * 7 = 0 from rfl] at hx309_3)
                 (try rw [Addr.add_zero'] at hx309_3)
                 (try rw [show ((0 : Int)).toNat = 0 from rfl] at hx309_4)
                 (try rw [show 0 * 7 = 0 from rfl] at hx309_4)
                 (try rw [Addr.add_zero'] at hx309_4)
                 (try rw [show ((0 : Int)).toNat = 0 from rfl] at hx309_5)
                 (try rw [show 0 * 7 = 0 from rfl] at hx309_5)
                 (try rw [Addr.add_zero'] at hx309_5)
                 (try rw [show ((0 : Int)).toNat = 0 from rfl] at hx309_6)
                 (try rw [show 0 * 7 = 0 from rfl] at hx309_6)
                 (try rw [Addr.add_zero'] at hx309_6)
                 replace p309 := eq_true p309
                 replace q309 := eq_true q309
                 have p310 : 0 ≤ (0 : Int) := (by omega)
                 have q310 : 0 < (t303.length : Int) := of_decide_eq_true (by first | (with_reducible assumption) | assumption)
                 obtain ⟨ad310, e310, hx310_0, hx310_1, hx310_2, hx310_3, hx310_4, hx310_5, hx310_6⟩ := at_T32 (Kd.R_reads' HO_5.out).2.2 0 p310 q310
                 obtain rfl : ad308 = ad310 := (by injection e310)
                 have qi310 : (0 < t303.length) = True := eq_true (by omega)
                 (try rw [show ((0 : Int)).toNat = 0 from rfl] at hx310_0)
                 (try rw [show 0 * 7 = 0 from rfl] at hx310_0)
                 (try rw [Addr.add_zero'] at hx310_0)
                 (try rw [show ((0 : Int)).toNat = 0 from rfl] at hx310_1)
                 (try rw [show 0 * 7 = 0 from rfl] at hx310_1)
                 (try rw [Addr.add_zero'] at hx310_1)
                 (try rw [show ((0 : Int)).toNat = 0 from rfl] at hx310_2)
                 (try rw [show 0 * 7 = 0 from rfl] at hx310_2)
                 (try rw [Addr.add_zero'] at hx310_2)
                 (try rw [show ((0 : Int)).toNat = 0 from rfl] at hx310_3)
                 (try rw [show 0 * 7 = 0 from rfl] at hx310_3)
                 (try rw [Addr.add_zero'] at hx310_3)
                 (try rw [show ((0 : Int)).toNat = 0 from rfl] at hx310_4)
                 (try rw [show 0 * 7 = 0 from rfl] at hx310_4)
                 (try rw [Addr.add_zero'] at hx310_4)
                 (try rw [show ((0 : Int)).toNat = 0 from rfl] at hx310_5)
                 (try rw [show 0 * 7 = 0 from rfl] at hx310_5)
                 (try rw [Addr.add_zero'] at hx310_5)
                 (try rw [show ((0 : Int)).toNat = 0 from rfl] at hx310_6)
                 (try rw [show 0 * 7 = 0 from rfl] at hx310_6)
                 (try rw [Addr.add_zero'] at hx310_6)
                 replace p310 := eq_true p310
                 replace q310 := eq_true q310
                 refine start_ (n := 24) (S := fun w' => w'.cell? ⟨gb290, 0, none⟩ = some (.string a0_0) ∧ w'.cell? ⟨gb290, 1, none⟩ = some (.int .i64 a0_1) ∧ w'.cell? ⟨gb290, 2, none⟩ = some (.bool a0_2) ∧ w'.cell? ad308 = some (.int .i64 ((rd_T32 t303 0).f0)) ∧ w'.cell? ⟨ad308.block, ad308.off + 1, none⟩ = some (.int .i64 ((rd_T32 t303 0).f1)) ∧ w'.cell? ⟨ad308.block, ad308.off + 2, none⟩ = some (.int .i64 ((rd_T32 t303 0).f2)) ∧ w'.cell? ⟨ad308.block, ad308.off + 3, none⟩ = some (.int .i64 ((rd_T32 t303 0).f3)) ∧ w'.cell? ⟨ad308.block, ad308.off + 4, none⟩ = some (.int .i64 ((rd_T32 t303 0).f4)) ∧ w'.cell? ⟨ad308.block, ad308.off + 5, none⟩ = some (.string ((rd_T32 t303 0).f5)) ∧ w'.cell? ⟨ad308.block, ad308.off + 6, none⟩ = some (.int .i64 ((rd_T32 t303 0).f6)) ∧ w'.cell? ad308 = some (.int .i64 ((rd_T32 t303 0).f0)) ∧ w'.cell? ⟨ad308.block, ad308.off + 1, none⟩ = some (.int .i64 ((rd_T32 t303 0).f1)) ∧ w'.cell? ⟨ad308.block, ad308.off + 2, none⟩ = some (.int .i64 ((rd_T32 t303 0).f2)) ∧ w'.cell? ⟨ad308.block, ad308.off + 3, none⟩ = some (.int .i64 ((rd_T32 t303 0).f3)) ∧ w'.cell? ⟨ad308.block, ad308.off + 4, none⟩ = some (.int .i64 ((rd_T32 t303 0).f4)) ∧ w'.cell? ⟨ad308.block, ad308.off + 5, none⟩ = some (.string ((rd_T32 t303 0).f5)) ∧ w'.cell? ⟨ad308.block, ad308.off + 6, none⟩ = some (.int .i64 ((rd_T32 t303 0).f6)) ∧ w'.cell? ad308 = some (.int .i64 ((rd_T32 t303 0).f0)) ∧ w'.cell? ⟨ad308.block, ad308.off + 1, none⟩ = some (.int .i64 ((rd_T32 t303 0).f1)) ∧ w'.cell? ⟨ad308.block, ad308.off + 2, none⟩ = some (.int .i64 ((rd_T32 t303 0).f2)) ∧ w'.cell? ⟨ad308.block, ad308.off + 3, none⟩ = some (.int .i64 ((rd_T32 t303 0).f3)) ∧ w'.cell? ⟨ad308.block, ad308.off + 4, none⟩ = some (.int .i64 ((rd_T32 t303 0).f4)) ∧ w'.cell? ⟨ad308.block, ad308.off + 5, none⟩ = some (.string ((rd_T32 t303 0).f5)) ∧ w'.cell? ⟨ad308.block, ad308.off + 6, none⟩ = some (.int .i64 ((rd_T32 t303 0).f6))) (ds := []) #[false, false, false, false, false, false, false, false, false, false, false, false, false, false, false, false, false, false, false, false, false, false, false, false] (by kernel_rfl) rfl rfl ⟨(blk_cell BK290.out 0).trans rfl, (blk_cell BK290.out 1).trans rfl, (blk_cell BK290.out 2).trans rfl, hx308_0, hx308_1, hx308_2, hx308_3, hx308_4, hx308_5, hx308_6, hx309_0, hx309_1, hx309_2, hx309_3, hx309_4, hx309_5, hx309_6, hx310_0, hx310_1, hx310_2, hx310_3, hx310_4, hx310_5, hx310_6⟩ (fun hHeld => ?_); refine with_tabW signalbenchlaw21_SyncFirst.tab16 signalbenchlaw21_SyncFirst.bits16 (fun HT_ HW_ => ?_)
                 generalize wc.drew = w90 at HO_5 BK290 HB hx308_0 hx308_1 hx308_2 hx308_3 hx308_4 hx308_5 hx308_6 hx309_0 hx309_1 hx309_2 hx309_3 hx309_4 hx309_5 hx309_6 hx310_0 hx310_1 hx310_2 hx310_3 hx310_4 hx310_5 hx310_6 hHeld ⊢
                 refine pstep 0 (some 124) #[true, false, false, false, false, false, false, false, false, false, false, false, false, false, false, false, false, false, false, false, false, false, false, false] HT_.out ?_
                 refine pstep 1 (some 125) #[true, true, false, false, false, false, false, false, false, false, false, false, false, false, false, false, false, false, false, false, false, false, false, false] HT_.out ?_
                 refine pstep 2 (some 126) #[true, true, true, false, false, false, false, false, false, false, false, false, false, false, false, false, false, false, false, false, false, false, false, false] HT_.out ?_
                 refine take_ (i := 3) (N := some 127) (v := ?_) (a' := ?_) #[true, true, true, true, false, false, false, false, false, false, false, false, false, false, false, false, false, false, false, false, false, false, false, false] rfl rfl (take_ofW HT_.out HW_.out (by kernel_rfl)) (fun _ _ _ h => h) (Or.inl ⟨by rfl, ?_⟩) hHeld ?_ ?_
                 rotate_left
                 ·rintro w' ⟨s0, s1, s2, s3, s4, s5, s6, s7, s8, s9, s10, s11, s12, s13, s14, s15, s16, s17, s18, s19, s20, s21, s22, s23⟩
                  go_simp
                  with_reducible rfl
                 rotate_left
                 ·simp only [Act.put, nrm]
                  rfl
                 refine pstep 4 (some 128) #[true, true, true, true, true, false, false, false, false, false, false, false, false, false, false, false, false, false, false, false, false, false, false, false] HT_.out ?_
                 refine pstep 5 (some 129) #[true, true, true, true, true, true, false, false, false, false, false, false, false, false, false, false, false, false, false, false, false, false, false, false] HT_.out ?_
                 refine pstep 6 (some 130) #[true, true, true, true, true, true, true, false, false, false, false, false, false, false, false, false, false, false, false, false, false, false, false, false] HT_.out ?_
                 refine pstep 7 (some 131) #[true, true, true, true, true, true, true, true, false, false, false, false, false, false, false, false, false, false, false, false, false, false, false, false] HT_.out ?_
                 refine pstep 8 (some 132) #[true, true, true, true, true, true, true, true, true, false, false, false, false, false, false, false, false, false, false, false, false, false, false, false] HT_.out ?_
                 refine pstep 10 (some 134) #[true, true, true, true, true, true, true, true, true, false, true, false, false, false, false, false, false, false, false, false, false, false, false, false] HT_.out ?_
                 refine take_ (i := 9) (N := some 133) (v := ?_) (a' := ?_) #[true, true, true, true, true, true, true, true, true, true, true, false, false, false, false, false, false, false, false, false, false, false, false, false] rfl rfl (take_ofW HT_.out HW_.out (by kernel_rfl)) (fun _ _ _ h => h) (Or.inl ⟨by rfl, ?_⟩) hHeld ?_ ?_
                 rotate_left
                 ·rintro w' ⟨s0, s1, s2, s3, s4, s5, s6, s7, s8, s9, s10, s11, s12, s13, s14, s15, s16, s17, s18, s19, s20, s21, s22, s23⟩
                  go_simp
                  with_reducible rfl
                 rotate_left
                 ·simp only [Act.put, nrm]
                  rfl
                 refine pstep 11 (some 135) #[true, true, true, true, true, true, true, true, true, true, true, true, false, false, false, false, false, false, false, false, false, false, false, false] HT_.out ?_
                 refine pstep 12 (some 136) #[true, true, true, true, true, true, true, true, true, true, true, true, true, false, false, false, false, false, false, false, false, false, false, false] HT_.out ?_
                 refine pstep 13 (some 137) #[true, true, true, true, true, true, true, true, true, true, true, true, true, true, false, false, false, false, false, false, false, false, false, false] HT_.out ?_
                 refine pstep 14 (some 138) #[true, true, true, true, true, true, true, true, true, true, true, true, true, true, true, false, false, false, false, false, false, false, false, false] HT_.out ?_
                 refine pstep 15 (some 139) #[true, true, true, true, true, true, true, true, true, true, true, true, true, true, true, true, false, false, false, false, false, false, false, false] HT_.out ?_
                 refine pstep 16 (some 140) #[true, true, true, true, true, true, true, true, true, true, true, true, true, true, true, true, true, false, false, false, false, false, false, false] HT_.out ?_
                 refine pstep 19 (some 143) #[true, true, true, true, true, true, true, true, true, true, true, true, true, true, true, true, true, false, false, true, false, false, false, false] HT_.out ?_
                 refine take_ (i := 17) (N := some 141) (v := ?_) (a' := ?_) #[true, true, true, true, true, true, true, true, true, true, true, true, true, true, true, true, true, true, false, true, false, false, false, false] rfl rfl (take_ofW HT_.out HW_.out (by kernel_rfl)) (fun _ _ _ h => h) (Or.inl ⟨by rfl, ?_⟩) hHeld ?_ ?_
                 rotate_left
                 ·rintro w' ⟨s0, s1, s2, s3, s4, s5, s6, s7, s8, s9, s10, s11, s12, s13, s14, s15, s16, s17, s18, s19, s20, s21, s22, s23⟩
                  go_simp
                  with_reducible rfl
                 rotate_left
                 ·simp only [Act.put, nrm]
                  rfl
                 refine pstep 18 (some 142) #[true, true, true, true, true, true, true, true, true, true, true, true, true, true, true, true, true, true, true, true, false, false, false, false] HT_.out ?_
                 refine take_ (i := 20) (N := some 144) (v := ?_) (a' := ?_) #[true, true, true, true, true, true, true, true, true, true, true, true, true, true, true, true, true, true, true, true, true, false, false, false] rfl rfl (take_ofW HT_.out HW_.out (by kernel_rfl)) (fun _ _ _ h => h) (Or.inl ⟨by rfl, ?_⟩) hHeld ?_ ?_
                 rotate_left
                 ·rintro w' ⟨s0, s1, s2, s3, s4, s5, s6, s7, s8, s9, s10, s11, s12, s13, s14, s15, s16, s17, s18, s19, s20, s21, s22, s23⟩
                  go_simp
                  with_reducible rfl
                 rotate_left
                 ·simp only [Act.put, nrm]
                  rfl
                 refine pstep 21 (some 145) #[true, true, true, true, true, true, true, true, true, true, true, true, true, true, true, true, true, true, true, true, true, true, false, false] HT_.out ?_
                 refine pstep 22 (some 146) #[true, true, true, true, true, true, true, true, true, true, true, true, true, true, true, true, true, true, true, true, true, true, true, false] HT_.out ?_
                 refine pstep 23 (some 4) #[true, true, true, true, true, true, true, true, true, true, true, true, true, true, true, true, true, true, true, true, true, true, true, true] HT_.out ?_
                 refine done_ (done_of HT_.out (by kernel_rfl)) ?_
                 try go_wp2
                 go_ret
                 exact ⟨by first | rfl | (simp [errW_none, errW_some] <;> rfl) | (simp [*, errW_none, errW_some] <;> rfl), by repeat (first | (with_reducible first | exact HB.out | apply below_alloc | apply pw_below_drewN | apply below_drew1 | refine below_set ?_ GE290.out) | exact HB.out)⟩
                ·rw [if_neg c88] at H
                 have c88b0 : (((rd_T32 t303 0).f2) == (wrap64 ((wrap64 (x6_52 + (a0_0.size : Int))) + (wrap64 (8 * a0_1))))) = false := beq_eq_false_iff_ne.mpr c88
                 have c88b1 : (((rd_T32 t303 0).f2) != (wrap64 ((wrap64 (x6_52 + (a0_0.size : Int))) + (wrap64 (8 * a0_1))))) = true := bne_iff_ne.mpr c88
                 obtain rfl := Option.some.inj H
                 have hcz92_0 : wc.cell? ⟨gb290, 0, none⟩ = some (.string a0_0) := (blk_cell BK290.out 0).trans rfl
                 have hcz92_1 : wc.cell? ⟨gb290, 1, none⟩ = some (.int .i64 a0_1) := (blk_cell BK290.out 1).trans rfl
                 have hcz92_2 : wc.cell? ⟨gb290, 2, none⟩ = some (.bool a0_2) := (blk_cell BK290.out 2).trans rfl
                 have hfz92_0 := blk_frozen BK290.out 0
                 have hfz92_1 := blk_frozen BK290.out 1
                 have hfz92_2 := blk_frozen BK290.out 2
                 try go_wp2
                 have n0_ := Aside0.mk (Kd.R_drew HO_5.out)
                 have n1_ := Aside0.mk (blk_drew BK290.out)
                 have n2_ := Aside0.mk (below_drew1 HB.out)
                 clear HO_5
                 clear BK290
                 clear HB
                 have HO_5 := n0_
                 have BK290 := n1_
                 have HB := n2_
                 clear n0_ n1_ n2_
                 obtain ⟨Ao94, co94, eo94⟩ := Kd.R_slice HO_5.out
                 (first | subst eo94 | (injection eo94 with f1_ f2_ f3_; have f4_ := f1_.symm; have f5_ := f3_.symm; clear f1_ f2_ f3_; subst f4_; subst f5_))
                 have p308 : 0 ≤ (0 : Int) := (by omega)
                 have q308 : 0 < (t303.length : Int) := of_decide_eq_true (by first | (with_reducible assumption) | assumption)
                 obtain ⟨ad308, e308, hx308_0, hx308_1, hx308_2, hx308_3, hx308_4, hx308_5, hx308_6⟩ := at_T32 (Kd.R_reads' HO_5.out).2.2 0 p308 q308
                 cases e308
                 have qi308 : (0 < t303.length) = True := eq_true (by omega)
                 (try rw [show ((0 : Int)).toNat = 0 from rfl] at hx308_0)
                 (try rw [show 0 * 7 = 0 from rfl] at hx308_0)
                 (try rw [Addr.add_zero'] at hx308_0)
                 (try rw [show ((0 : Int)).toNat = 0 from rfl] at hx308_1)
                 (try rw [show 0 * 7 = 0 from rfl] at hx308_1)
                 (try rw [Addr.add_zero'] at hx308_1)
                 (try rw [show ((0 : Int)).toNat = 0 from rfl] at hx308_2)
                 (try rw [show 0 * 7 = 0 from rfl] at hx308_2)
                 (try rw [Addr.add_zero'] at hx308_2)
                 (try rw [show ((0 : Int)).toNat = 0 from rfl] at hx308_3)
                 (try rw [show 0 * 7 = 0 from rfl] at hx308_3)
                 (try rw [Addr.add_zero'] at hx308_3)
                 (try rw [show ((0 : Int)).toNat = 0 from rfl] at hx308_4)
                 (try rw [show 0 * 7 = 0 from rfl] at hx308_4)
                 (try rw [Addr.add_zero'] at hx308_4)
                 (try rw [show ((0 : Int)).toNat = 0 from rfl] at hx308_5)
                 (try rw [show 0 * 7 = 0 from rfl] at hx308_5)
                 (try rw [Addr.add_zero'] at hx308_5)
                 (try rw [show ((0 : Int)).toNat = 0 from rfl] at hx308_6)
                 (try rw [show 0 * 7 = 0 from rfl] at hx308_6)
                 (try rw [Addr.add_zero'] at hx308_6)
                 replace p308 := eq_true p308
                 replace q308 := eq_true q308
                 have p309 : 0 ≤ (0 : Int) := (by omega)
                 have q309 : 0 < (t303.length : Int) := of_decide_eq_true (by first | (with_reducible assumption) | assumption)
                 obtain ⟨ad309, e309, hx309_0, hx309_1, hx309_2, hx309_3, hx309_4, hx309_5, hx309_6⟩ := at_T32 (Kd.R_reads' HO_5.out).2.2 0 p309 q309
                 obtain rfl : ad308 = ad309 := (by injection e309)
                 have qi309 : (0 < t303.length) = True := eq_true (by omega)
                 (try rw [show ((0 : Int)).toNat = 0 from rfl] at hx309_0)
                 (try rw [show 0 * 7 = 0 from rfl] at hx309_0)
                 (try rw [Addr.add_zero'] at hx309_0)
                 (try rw [show ((0 : Int)).toNat = 0 from rfl] at hx309_1)
                 (try rw [show 0 * 7 = 0 from rfl] at hx309_1)
                 (try rw [Addr.add_zero'] at hx309_1)
                 (try rw [show ((0 : Int)).toNat = 0 from rfl] at hx309_2)
                 (try rw [show 0 * 7 = 0 from rfl] at hx309_2)
                 (try rw [Addr.add_zero'] at hx309_2)
                 (try rw [show ((0 : Int)).toNat = 0 from rfl] at hx309_3)
                 (try rw [show 0 * 7 = 0 from rfl] at hx309_3)
                 (try rw [Addr.add_zero'] at hx309_3)
                 (try rw [show ((0 : Int)).toNat = 0 from rfl] at hx309_4)
                 (try rw [show 0 * 7 = 0 from rfl] at hx309_4)
                 (try rw [Addr.add_zero'] at hx309_4)
                 (try rw [show ((0 : Int)).toNat = 0 from rfl] at hx309_5)
                 (try rw [show 0 * 7 = 0 from rfl] at hx309_5)
                 (try rw [Addr.add_zero'] at hx309_5)
                 (try rw [show ((0 : Int)).toNat = 0 from rfl] at hx309_6)
                 (try rw [show 0 * 7 = 0 from rfl] at hx309_6)
                 (try rw [Addr.add_zero'] at hx309_6)
                 replace p309 := eq_true p309
                 replace q309 := eq_true q309
                 refine start_ (n := 24) (S := fun w' => w'.cell? ad308 = some (.int .i64 ((rd_T32 t303 0).f0)) ∧ w'.cell? ⟨ad308.block, ad308.off + 1, none⟩ = some (.int .i64 ((rd_T32 t303 0).f1)) ∧ w'.cell? ⟨ad308.block, ad308.off + 2, none⟩ = some (.int .i64 ((rd_T32 t303 0).f2)) ∧ w'.cell? ⟨ad308.block, ad308.off + 3, none⟩ = some (.int .i64 ((rd_T32 t303 0).f3)) ∧ w'.cell? ⟨ad308.block, ad308.off + 4, none⟩ = some (.int .i64 ((rd_T32 t303 0).f4)) ∧ w'.cell? ⟨ad308.block, ad308.off + 5, none⟩ = some (.string ((rd_T32 t303 0).f5)) ∧ w'.cell? ⟨ad308.block, ad308.off + 6, none⟩ = some (.int .i64 ((rd_T32 t303 0).f6)) ∧ w'.cell? ad308 = some (.int .i64 ((rd_T32 t303 0).f0)) ∧ w'.cell? ⟨ad308.block, ad308.off + 1, none⟩ = some (.int .i64 ((rd_T32 t303 0).f1)) ∧ w'.cell? ⟨ad308.block, ad308.off + 2, none⟩ = some (.int .i64 ((rd_T32 t303 0).f2)) ∧ w'.cell? ⟨ad308.block, ad308.off + 3, none⟩ = some (.int .i64 ((rd_T32 t303 0).f3)) ∧ w'.cell? ⟨ad308.block, ad308.off + 4, none⟩ = some (.int .i64 ((rd_T32 t303 0).f4)) ∧ w'.cell? ⟨ad308.block, ad308.off + 5, none⟩ = some (.string ((rd_T32 t303 0).f5)) ∧ w'.cell? ⟨ad308.block, ad308.off + 6, none⟩ = some (.int .i64 ((rd_T32 t303 0).f6))) (ds := []) #[false, false, false, false, false, false, false, false, false, false, false, false, false, false, false, false, false, false, false, false, false, false, false, false] (by kernel_rfl) rfl rfl ⟨hx308_0, hx308_1, hx308_2, hx308_3, hx308_4, hx308_5, hx308_6, hx309_0, hx309_1, hx309_2, hx309_3, hx309_4, hx309_5, hx309_6⟩ (fun hHeld => ?_); refine with_tabW signalbenchlaw21_SyncFirst.tab16 signalbenchlaw21_SyncFirst.bits16 (fun HT_ HW_ => ?_)
                 generalize wc.drew = w93 at HO_5 BK290 HB hx308_0 hx308_1 hx308_2 hx308_3 hx308_4 hx308_5 hx308_6 hx309_0 hx309_1 hx309_2 hx309_3 hx309_4 hx309_5 hx309_6 hHeld ⊢
                 refine pstep 0 (some 124) #[true, false, false, false, false, false, false, false, false, false, false, false, false, false, false, false, false, false, false, false, false, false, false, false] HT_.out ?_
                 refine pstep 1 (some 125) #[true, true, false, false, false, false, false, false, false, false, false, false, false, false, false, false, false, false, false, false, false, false, false, false] HT_.out ?_
                 refine pstep 2 (some 126) #[true, true, true, false, false, false, false, false, false, false, false, false, false, false, false, false, false, false, false, false, false, false, false, false] HT_.out ?_
                 refine take_ (i := 3) (N := some 127) (v := ?_) (a' := ?_) #[true, true, true, true, false, false, false, false, false, false, false, false, false, false, false, false, false, false, false, false, false, false, false, false] rfl rfl (take_ofW HT_.out HW_.out (by kernel_rfl)) (fun _ _ _ h => h) (Or.inl ⟨by rfl, ?_⟩) hHeld ?_ ?_
                 rotate_left
                 ·rintro w' ⟨s0, s1, s2, s3, s4, s5, s6, s7, s8, s9, s10, s11, s12, s13⟩
                  go_simp
                  with_reducible rfl
                 rotate_left
                 ·simp only [Act.put, nrm]
                  rfl
                 refine pstep 4 (some 128) #[true, true, true, true, true, false, false, false, false, false, false, false, false, false, false, false, false, false, false, false, false, false, false, false] HT_.out ?_
                 refine pstep 5 (some 129) #[true, true, true, true, true, true, false, false, false, false, false, false, false, false, false, false, false, false, false, false, false, false, false, false] HT_.out ?_
                 refine pstep 6 (some 130) #[true, true, true, true, true, true, true, false, false, false, false, false, false, false, false, false, false, false, false, false, false, false, false, false] HT_.out ?_
                 refine pstep 7 (some 131) #[true, true, true, true, true, true, true, true, false, false, false, false, false, false, false, false, false, false, false, false, false, false, false, false] HT_.out ?_
                 refine pstep 8 (some 132) #[true, true, true, true, true, true, true, true, true, false, false, false, false, false, false, false, false, false, false, false, false, false, false, false] HT_.out ?_
                 refine pstep 10 (some 134) #[true, true, true, true, true, true, true, true, true, false, true, false, false, false, false, false, false, false, false, false, false, false, false, false] HT_.out ?_
                 refine take_ (i := 9) (N := some 133) (v := ?_) (a' := ?_) #[true, true, true, true, true, true, true, true, true, true, true, false, false, false, false, false, false, false, false, false, false, false, false, false] rfl rfl (take_ofW HT_.out HW_.out (by kernel_rfl)) (fun _ _ _ h => h) (Or.inl ⟨by rfl, ?_⟩) hHeld ?_ ?_
                 rotate_left
                 ·rintro w' ⟨s0, s1, s2, s3, s4, s5, s6, s7, s8, s9, s10, s11, s12, s13⟩
                  go_simp
                  with_reducible rfl
                 rotate_left
                 ·simp only [Act.put, nrm]
                  rfl
                 refine pstep 11 (some 135) #[true, true, true, true, true, true, true, true, true, true, true, true, false, false, false, false, false, false, false, false, false, false, false, false] HT_.out ?_
                 refine pstep 12 (some 136) #[true, true, true, true, true, true, true, true, true, true, true, true, true, false, false, false, false, false, false, false, false, false, false, false] HT_.out ?_
                 refine pstep 13 (some 137) #[true, true, true, true, true, true, true, true, true, true, true, true, true, true, false, false, false, false, false, false, false, false, false, false] HT_.out ?_
                 refine pure_ (i := 14) (N := some 138) (v := undef) (a' := ?_) #[true, true, true, true, true, true, true, true, true, true, true, true, true, true, true, false, false, false, false, false, false, false, false, false] rfl rfl (any_of HT_.out (by kernel_rfl)) (fun _ _ _ h => h) (Or.inr ⟨by rfl, rfl⟩) ?_ ?_
                 rotate_left
                 ·simp only [Act.put, nrm]
                  rfl
                 refine pure_ (i := 15) (N := some 139) (v := undef) (a' := ?_) #[true, true, true, true, true, true, true, true, true, true, true, true, true, true, true, true, false, false, false, false, false, false, false, false] rfl rfl (any_of HT_.out (by kernel_rfl)) (fun _ _ _ h => h) (Or.inr ⟨by rfl, rfl⟩) ?_ ?_
                 rotate_left
                 ·simp only [Act.put, nrm]
                  rfl
                 refine pure_ (i := 16) (N := some 140) (v := undef) (a' := ?_) #[true, true, true, true, true, true, true, true, true, true, true, true, true, true, true, true, true, false, false, false, false, false, false, false] rfl rfl (any_of HT_.out (by kernel_rfl)) (fun _ _ _ h => h) (Or.inr ⟨by rfl, rfl⟩) ?_ ?_
                 rotate_left
                 ·simp only [Act.put, nrm]
                  rfl
                 refine pure_ (i := 17) (N := some 141) (v := undef) (a' := ?_) #[true, true, true, true, true, true, true, true, true, true, true, true, true, true, true, true, true, true, false, false, false, false, false, false] rfl rfl (any_of HT_.out (by kernel_rfl)) (fun _ _ _ h => h) (Or.inr ⟨by rfl, rfl⟩) ?_ ?_
                 rotate_left
                 ·simp only [Act.put, nrm]
                  rfl
                 refine pure_ (i := 18) (N := some 142) (v := undef) (a' := ?_) #[true, true, true, true, true, true, true, true, true, true, true, true, true, true, true, true, true, true, true, false, false, false, false, false] rfl rfl (any_of HT_.out (by kernel_rfl)) (fun _ _ _ h => h) (Or.inr ⟨by rfl, rfl⟩) ?_ ?_
                 rotate_left
                 ·simp only [Act.put, nrm]
                  rfl
                 refine pure_ (i := 19) (N := some 143) (v := undef) (a' := ?_) #[true, true, true, true, true, true, true, true, true, true, true, true, true, true, true, true, true, true, true, true, false, false, false, false] rfl rfl (any_of HT_.out (by kernel_rfl)) (fun _ _ _ h => h) (Or.inr ⟨by rfl, rfl⟩) ?_ ?_
                 rotate_left
                 ·simp only [Act.put, nrm]
                  rfl
                 refine pure_ (i := 20) (N := some 144) (v := undef) (a' := ?_) #[true, true, true, true, true, true, true, true, true, true, true, true, true, true, true, true, true, true, true, true, true, false, false, false] rfl rfl (any_of HT_.out (by kernel_rfl)) (fun _ _ _ h => h) (Or.inr ⟨by rfl, rfl⟩) ?_ ?_
                 rotate_left
                 ·simp only [Act.put, nrm]
                  rfl
                 refine pure_ (i := 21) (N := some 145) (v := undef) (a' := ?_) #[true, true, true, true, true, true, true, true, true, true, true, true, true, true, true, true, true, true, true, true, true, true, false, false] rfl rfl (any_of HT_.out (by kernel_rfl)) (fun _ _ _ h => h) (Or.inr ⟨by rfl, rfl⟩) ?_ ?_
                 rotate_left
                 ·simp only [Act.put, nrm]
                  rfl
                 refine pstep 22 (some 146) #[true, true, true, true, true, true, true, true, true, true, true, true, true, true, true, true, true, true, true, true, true, true, true, false] HT_.out ?_
                 refine pstep 23 (some 4) #[true, true, true, true, true, true, true, true, true, true, true, true, true, true, true, true, true, true, true, true, true, true, true, true] HT_.out ?_
                 refine done_ (done_of HT_.out (by kernel_rfl)) ?_
                 try go_wp2
                 go_ret
                 exact ⟨by first | rfl | (simp [errW_none, errW_some] <;> rfl) | (simp [*, errW_none, errW_some] <;> rfl), by repeat (first | (with_reducible first | exact HB.out | apply below_alloc | apply pw_below_drewN | apply below_drew1 | refine below_set ?_ GE290.out) | exact HB.out)⟩
               ·rw [if_neg c87] at H
                have c87b0 : (((rd_T32 t303 0).f6) == 0) = false := beq_eq_false_iff_ne.mpr c87
                have c87b1 : (((rd_T32 t303 0).f6) != 0) = true := bne_iff_ne.mpr c87
                obtain rfl := Option.some.inj H
                have hcz95_0 : wc.cell? ⟨gb290, 0, none⟩ = some (.string a0_0) := (blk_cell BK290.out 0).trans rfl
                have hcz95_1 : wc.cell? ⟨gb290, 1, none⟩ = some (.int .i64 a0_1) := (blk_cell BK290.out 1).trans rfl
                have hcz95_2 : wc.cell? ⟨gb290, 2, none⟩ = some (.bool a0_2) := (blk_cell BK290.out 2).trans rfl
                have hfz95_0 := blk_frozen BK290.out 0
                have hfz95_1 := blk_frozen BK290.out 1
                have hfz95_2 := blk_frozen BK290.out 2
                try go_wp2
                have n0_ := Aside0.mk (Kd.R_drew HO_5.out)
                have n1_ := Aside0.mk (blk_drew BK290.out)
                have n2_ := Aside0.mk (below_drew1 HB.out)
                clear HO_5
                clear BK290
                clear HB
                have HO_5 := n0_
                have BK290 := n1_
                have HB := n2_
                clear n0_ n1_ n2_
                obtain ⟨Ao97, co97, eo97⟩ := Kd.R_slice HO_5.out
                (first | subst eo97 | (injection eo97 with f1_ f2_ f3_; have f4_ := f1_.symm; have f5_ := f3_.symm; clear f1_ f2_ f3_; subst f4_; subst f5_))
                have p308 : 0 ≤ (0 : Int) := (by omega)
                have q308 : 0 < (t303.length : Int) := of_decide_eq_true (by first | (with_reducible assumption) | assumption)
                obtain ⟨ad308, e308, hx308_0, hx308_1, hx308_2, hx308_3, hx308_4, hx308_5, hx308_6⟩ := at_T32 (Kd.R_reads' HO_5.out).2.2 0 p308 q308
                cases e308
                have qi308 : (0 < t303.length) = True := eq_true (by omega)
                (try rw [show ((0 : Int)).toNat = 0 from rfl] at hx308_0)
                (try rw [show 0 * 7 = 0 from rfl] at hx308_0)
                (try rw [Addr.add_zero'] at hx308_0)
                (try rw [show ((0 : Int)).toNat = 0 from rfl] at hx308_1)
                (try rw [show 0 * 7 = 0 from rfl] at hx308_1)
                (try rw [Addr.add_zero'] at hx308_1)
                (try rw [show ((0 : Int)).toNat = 0 from rfl] at hx308_2)
                (try rw [show 0 * 7 = 0 from rfl] at hx308_2)
                (try rw [Addr.add_zero'] at hx308_2)
                (try rw [show ((0 : Int)).toNat = 0 from rfl] at hx308_3)
                (try rw [show 0 * 7 = 0 from rfl] at hx308_3)
                (try rw [Addr.add_zero'] at hx308_3)
                (try rw [show ((0 : Int)).toNat = 0 from rfl] at hx308_4)
                (try rw [show 0 * 7 = 0 from rfl] at hx308_4)
                (try rw [Addr.add_zero'] at hx308_4)
                (try rw [show ((0 : Int)).toNat = 0 from rfl] at hx308_5)
                (try rw [show 0 * 7 = 0 from rfl] at hx308_5)
                (try rw [Addr.add_zero'] at hx308_5)
                (try rw [show ((0 : Int)).toNat = 0 from rfl] at hx308_6)
                (try rw [show 0 * 7 = 0 from rfl] at hx308_6)
                (try rw [Addr.add_zero'] at hx308_6)
                replace p308 := eq_true p308
                replace q308 := eq_true q308
                refine start_ (n := 24) (S := fun w' => w'.cell? ad308 = some (.int .i64 ((rd_T32 t303 0).f0)) ∧ w'.cell? ⟨ad308.block, ad308.off + 1, none⟩ = some (.int .i64 ((rd_T32 t303 0).f1)) ∧ w'.cell? ⟨ad308.block, ad308.off + 2, none⟩ = some (.int .i64 ((rd_T32 t303 0).f2)) ∧ w'.cell? ⟨ad308.block, ad308.off + 3, none⟩ = some (.int .i64 ((rd_T32 t303 0).f3)) ∧ w'.cell? ⟨ad308.block, ad308.off + 4, none⟩ = some (.int .i64 ((rd_T32 t303 0).f4)) ∧ w'.cell? ⟨ad308.block, ad308.off + 5, none⟩ = some (.string ((rd_T32 t303 0).f5)) ∧ w'.cell? ⟨ad308.block, ad308.off + 6, none⟩ = some (.int .i64 ((rd_T32 t303 0).f6))) (ds := []) #[false, false, false, false, false, false, false, false, false, false, false, false, false, false, false, false, false, false, false, false, false, false, false, false] (by kernel_rfl) rfl rfl ⟨hx308_0, hx308_1, hx308_2, hx308_3, hx308_4, hx308_5, hx308_6⟩ (fun hHeld => ?_); refine with_tabW signalbenchlaw21_SyncFirst.tab16 signalbenchlaw21_SyncFirst.bits16 (fun HT_ HW_ => ?_)
                generalize wc.drew = w96 at HO_5 BK290 HB hx308_0 hx308_1 hx308_2 hx308_3 hx308_4 hx308_5 hx308_6 hHeld ⊢
                refine pstep 0 (some 124) #[true, false, false, false, false, false, false, false, false, false, false, false, false, false, false, false, false, false, false, false, false, false, false, false] HT_.out ?_
                refine pstep 1 (some 125) #[true, true, false, false, false, false, false, false, false, false, false, false, false, false, false, false, false, false, false, false, false, false, false, false] HT_.out ?_
                refine pstep 2 (some 126) #[true, true, true, false, false, false, false, false, false, false, false, false, false, false, false, false, false, false, false, false, false, false, false, false] HT_.out ?_
                refine take_ (i := 3) (N := some 127) (v := ?_) (a' := ?_) #[true, true, true, true, false, false, false, false, false, false, false, false, false, false, false, false, false, false, false, false, false, false, false, false] rfl rfl (take_ofW HT_.out HW_.out (by kernel_rfl)) (fun _ _ _ h => h) (Or.inl ⟨by rfl, ?_⟩) hHeld ?_ ?_
                rotate_left
                ·rintro w' ⟨s0, s1, s2, s3, s4, s5, s6⟩
                 go_simp
                 with_reducible rfl
                rotate_left
                ·simp only [Act.put, nrm]
                 rfl
                refine pstep 4 (some 128) #[true, true, true, true, true, false, false, false, false, false, false, false, false, false, false, false, false, false, false, false, false, false, false, false] HT_.out ?_
                refine pstep 5 (some 129) #[true, true, true, true, true, true, false, false, false, false, false, false, false, false, false, false, false, false, false, false, false, false, false, false] HT_.out ?_
                refine pure_ (i := 6) (N := some 130) (v := undef) (a' := ?_) #[true, true, true, true, true, true, true, false, false, false, false, false, false, false, false, false, false, false, false, false, false, false, false, false] rfl rfl (any_of HT_.out (by kernel_rfl)) (fun _ _ _ h => h) (Or.inr ⟨by rfl, rfl⟩) ?_ ?_
                rotate_left
                ·simp only [Act.put, nrm]
                 rfl
                refine pure_ (i := 7) (N := some 131) (v := undef) (a' := ?_) #[true, true, true, true, true, true, true, true, false, false, false, false, false, false, false, false, false, false, false, false, false, false, false, false] rfl rfl (any_of HT_.out (by kernel_rfl)) (fun _ _ _ h => h) (Or.inr ⟨by rfl, rfl⟩) ?_ ?_
                rotate_left
                ·simp only [Act.put, nrm]
                 rfl
                refine pure_ (i := 8) (N := some 132) (v := undef) (a' := ?_) #[true, true, true, true, true, true, true, true, true, false, false, false, false, false, false, false, false, false, false, false, false, false, false, false] rfl rfl (any_of HT_.out (by kernel_rfl)) (fun _ _ _ h => h) (Or.inr ⟨by rfl, rfl⟩) ?_ ?_
                rotate_left
                ·simp only [Act.put, nrm]
                 rfl
                refine pure_ (i := 9) (N := some 133) (v := undef) (a' := ?_) #[true, true, true, true, true, true, true, true, true, true, false, false, false, false, false, false, false, false, false, false, false, false, false, false] rfl rfl (any_of HT_.out (by kernel_rfl)) (fun _ _ _ h => h) (Or.inr ⟨by rfl, rfl⟩) ?_ ?_
                rotate_left
                ·simp only [Act.put, nrm]
                 rfl
                refine pure_ (i := 10) (N := some 134) (v := undef) (a' := ?_) #[true, true, true, true, true, true, true, true, true, true, true, false, false, false, false, false, false, false, false, false, false, false, false, false] rfl rfl (any_of HT_.out (by kernel_rfl)) (fun _ _ _ h => h) (Or.inr ⟨by rfl, rfl⟩) ?_ ?_
                rotate_left
                ·simp only [Act.put, nrm]
                 rfl
                refine pure_ (i := 11) (N := some 135) (v := undef) (a' := ?_) #[true, true, true, true, true, true, true, true, true, true, true, true, false, false, false, false, false, false, false, false, false, false, false, false] rfl rfl (any_of HT_.out (by kernel_rfl)) (fun _ _ _ h => h) (Or.inr ⟨by rfl, rfl⟩) ?_ ?_
                rotate_left
                ·simp only [Act.put, nrm]
                 rfl
                refine pstep 12 (some 136) #[true, true, true, true, true, true, true, true, true, true, true, true, true, false, false, false, false, false, false, false, false, false, false, false] HT_.out ?_
                refine pstep 13 (some 137) #[true, true, true, true, true, true, true, true, true, true, true, true, true, true, false, false, false, false, false, false, false, false, false, false] HT_.out ?_
                refine pure_ (i := 14) (N := some 138) (v := undef) (a' := ?_) #[true, true, true, true, true, true, true, true, true, true, true, true, true, true, true, false, false, false, false, false, false, false, false, false] rfl rfl (any_of HT_.out (by kernel_rfl)) (fun _ _ _ h => h) (Or.inr ⟨by rfl, rfl⟩) ?_ ?_
                rotate_left
                ·simp only [Act.put, nrm]
                 rfl
                refine pure_ (i := 15) (N := some 139) (v := undef) (a' := ?_) #[true, true, true, true, true, true, true, true, true, true, true, true, true, true, true, true, false, false, false, false, false, false, false, false] rfl rfl (any_of HT_.out (by kernel_rfl)) (fun _ _ _ h => h) (Or.inr ⟨by rfl, rfl⟩) ?_ ?_
                rotate_left
                ·simp only [Act.put, nrm]
                 rfl
                refine pure_ (i := 16) (N := some 140) (v := undef) (a' := ?_) #[true, true, true, true, true, true, true, true, true, true, true, true, true, true, true, true, true, false, false, false, false, false, false, false] rfl rfl (any_of HT_.out (by kernel_rfl)) (fun _ _ _ h => h) (Or.inr ⟨by rfl, rfl⟩) ?_ ?_
                rotate_left
                ·simp only [Act.put, nrm]
                 rfl
                refine pure_ (i := 17) (N := some 141) (v := undef) (a' := ?_) #[true, true, true, true, true, true, true, true, true, true, true, true, true, true, true, true, true, true, false, false, false, false, false, false] rfl rfl (any_of HT_.out (by kernel_rfl)) (fun _ _ _ h => h) (Or.inr ⟨by rfl, rfl⟩) ?_ ?_
                rotate_left
                ·simp only [Act.put, nrm]
                 rfl
                refine pure_ (i := 18) (N := some 142) (v := undef) (a' := ?_) #[true, true, true, true, true, true, true, true, true, true, true, true, true, true, true, true, true, true, true, false, false, false, false, false] rfl rfl (any_of HT_.out (by kernel_rfl)) (fun _ _ _ h => h) (Or.inr ⟨by rfl, rfl⟩) ?_ ?_
                rotate_left
                ·simp only [Act.put, nrm]
                 rfl
                refine pure_ (i := 19) (N := some 143) (v := undef) (a' := ?_) #[true, true, true, true, true, true, true, true, true, true, true, true, true, true, true, true, true, true, true, true, false, false, false, false] rfl rfl (any_of HT_.out (by kernel_rfl)) (fun _ _ _ h => h) (Or.inr ⟨by rfl, rfl⟩) ?_ ?_
                rotate_left
                ·simp only [Act.put, nrm]
                 rfl
                refine pure_ (i := 20) (N := some 144) (v := undef) (a' := ?_) #[true, true, true, true, true, true, true, true, true, true, true, true, true, true, true, true, true, true, true, true, true, false, false, false] rfl rfl (any_of HT_.out (by kernel_rfl)) (fun _ _ _ h => h) (Or.inr ⟨by rfl, rfl⟩) ?_ ?_
                rotate_left
                ·simp only [Act.put, nrm]
                 rfl
                refine pure_ (i := 21) (N := some 145) (v := undef) (a' := ?_) #[true, true, true, true, true, true, true, true, true, true, true, true, true, true, true, true, true, true, true, true, true, true, false, false] rfl rfl (any_of HT_.out (by kernel_rfl)) (fun _ _ _ h => h) (Or.inr ⟨by rfl, rfl⟩) ?_ ?_
                rotate_left
                ·simp only [Act.put, nrm]
                 rfl
                refine pstep 22 (some 146) #[true, true, true, true, true, true, true, true, true, true, true, true, true, true, true, true, true, true, true, true, true, true, true, false] HT_.out ?_
                refine pstep 23 (some 4) #[true, true, true, true, true, true, true, true, true, true, true, true, true, true, true, true, true, true, true, true, true, true, true, true] HT_.out ?_
                refine done_ (done_of HT_.out (by kernel_rfl)) ?_
                try go_wp2
                go_ret
                exact ⟨by first | rfl | (simp [errW_none, errW_some] <;> rfl) | (simp [*, errW_none, errW_some] <;> rfl), by repeat (first | (with_reducible first | exact HB.out | apply below_alloc | apply pw_below_drewN | apply below_drew1 | refine below_set ?_ GE290.out) | exact HB.out)⟩
              ·rw [if_neg c86] at H
               exact absurd H (by simp)

/-- THE ONE PURE STATEMENT of signalbenchlaw21_SyncFirst: yours. -/
def signalbenchlaw21_SyncFirst.Pure : Prop := ∀ (a0_0 : ByteArray) (a0_1 : Int) (a0_2 : Bool) (a1 : ByteArray), a0_0.size ≤ 140737488351232 → (Lit.int .i64 a0_1).wf = true → a1.size ≤ 140737488351232 → ∃ k, signalbenchlaw21_SyncFirst.f k a0_0 a0_1 a0_2 a1 = some true
theorem signalbenchlaw21_SyncFirst.walk (P : signalbenchlaw21_SyncFirst.Pure) (a0_0 : ByteArray) (a0_1 : Int) (a0_2 : Bool) (a1 : ByteArray) (w : World)  (w0_ : a0_0.size ≤ 140737488351232) (w1_ : (Lit.int .i64 a0_1).wf = true) (w2_ : a1.size ≤ 140737488351232) :
  Calls Try.prog 6 #[.agg #[.string a0_0, .int .i64 a0_1, .bool a0_2], .string a1] w fun e w' => e = .returned (.bool true) ∧ Below w.heap.size w w' := by
 obtain ⟨k, h⟩ := P a0_0 a0_1 a0_2 a1 w0_ w1_ w2_
 refine (signalbenchlaw21_SyncFirst.calls k a0_0 a0_1 a0_2 a1 true w  h).mono ?_
 rintro e w' ⟨rfl, hd⟩
 exact ⟨rfl, hd⟩

end Go.Proofs.Ytbggkaofkohecaa.PSyncFirst
