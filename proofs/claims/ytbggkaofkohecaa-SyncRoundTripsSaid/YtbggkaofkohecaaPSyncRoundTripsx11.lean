-- Written by a program of this session (wip/tools/pr.py), which calls the kit's print with changes of its own.
import Derived.Test.YtbggkaofkohecaaPSyncRoundTripsx0
import Derived.Test.YtbggkaofkohecaaPSyncRoundTripsx1
import Derived.Test.YtbggkaofkohecaaPSyncRoundTripsx6
import Derived.Test.YtbggkaofkohecaaPSyncRoundTripsx8
import Derived.Test.YtbggkaofkohecaaPSyncRoundTripsx9
import Derived.Test.YtbggkaofkohecaaPSyncRoundTripsx10
namespace Go.Proofs.Ytbggkaofkohecaa.PSyncRoundTrips
open Go.RowKit Go.Proofs.YtbggkaofkohecaaW.PrintWords Go.Proofs.YtbggkaofkohecaaW.PrintLast Go.Proofs.YtbggkaofkohecaaW.PrintMore
attribute [local go_sem] max2_int min2_int max_two min_two max_three min_three max_four min_four   -- for this text's walks alone
set_option linter.unusedVariables false
set_option linter.unusedSimpArgs false

attribute [local go_sem high] eqA32
/-! ### signalbenchlaw21_SyncRoundTrips: function 5 -/
mutual
def signalbenchlaw21_SyncRoundTrips.j0 : Nat → List (S46) → Int → ByteArray → Int → Bool → Option (Bool)
 | 0, _, _, _, _, _ => none
 | k + 1, x1, x2, x292000, x292001, x292002 => (signalbenchlaw21_few.f k x1).bind fun t293 => (if t293 = true then (if x2 < 1 then (signalbenchlaw21_SyncRoundTrips.j1 k x1 x2 true x292000 x292001 x292002) else (if x2 > 1000 then (signalbenchlaw21_SyncRoundTrips.j1 k x1 x2 true x292000 x292001 x292002) else (signalbenchlaw21_SyncRoundTrips.j1 k x1 x2 (decide ((x292000.size : Int) > 32)) x292000 x292001 x292002))) else (signalbenchlaw21_SyncRoundTrips.j1 k x1 x2 true x292000 x292001 x292002))
def signalbenchlaw21_SyncRoundTrips.j1 : Nat → List (S46) → Int → Bool → ByteArray → Int → Bool → Option (Bool)
 | 0, _, _, _, _, _, _ => none
 | k + 1, x1, x2, x32, x292000, x292001, x292002 => if x32 = true then (some true) else (signalbenchlaw21_SyncRoundTrips.j2 k x1 x2 x292000 x292001 x292002)
def signalbenchlaw21_SyncRoundTrips.j2 : Nat → List (S46) → Int → ByteArray → Int → Bool → Option (Bool)
 | 0, _, _, _, _, _ => none
 | k + 1, x1, x2, x292000, x292001, x292002 => (sync_Encode.f k x292000 x292001 x292002 x1).bind fun bt294 => (if bt294.2 = 0 then (signalbenchlaw21_SyncRoundTrips.j3 k x1 x2 bt294.1 x292000 x292001 x292002) else (some ((bt294.1.length : Int) == 0)))
def signalbenchlaw21_SyncRoundTrips.j3 : Nat → List (S46) → Int → List (S46) → ByteArray → Int → Bool → Option (Bool)
 | 0, _, _, _, _, _, _ => none
 | k + 1, x1, x2, x7, x292000, x292001, x292002 => if (x7.length : Int) = (x1.length : Int) then ((signalbenchlaw21_bitItems.f k x7).bind fun t298 => (signalbenchlaw21_SyncRoundTrips.j4 k x1 x2 x7 (!t298) x292000 x292001 x292002)) else (signalbenchlaw21_SyncRoundTrips.j4 k x1 x2 x7 true x292000 x292001 x292002)
def signalbenchlaw21_SyncRoundTrips.j4 : Nat → List (S46) → Int → List (S46) → Bool → ByteArray → Int → Bool → Option (Bool)
 | 0, _, _, _, _, _, _, _ => none
 | k + 1, x1, x2, x7, x53, x292000, x292001, x292002 => if x53 = true then (some false) else (signalbenchlaw21_SyncRoundTrips.j5 k x1 x2 x7 x292000 x292001 x292002)
def signalbenchlaw21_SyncRoundTrips.j5 : Nat → List (S46) → Int → List (S46) → ByteArray → Int → Bool → Option (Bool)
 | 0, _, _, _, _, _, _ => none
 | k + 1, x1, x2, x7, x292000, x292001, x292002 => signalbenchlaw21_SyncRoundTrips.l0 k x1 x2 x7 0 x292000 x292001 x292002
def signalbenchlaw21_SyncRoundTrips.l0 : Nat → List (S46) → Int → List (S46) → Int → ByteArray → Int → Bool → Option (Bool)
 | 0, _, _, _, _, _, _, _ => none
 | k + 1, x1, x2, x7, x9, x292000, x292001, x292002 => if x9 < (x7.length : Int) then (if 0 ≤ x9 then (if x9 < (x1.length : Int) then (if (((rd_T46 x7 x9).f3).size : Int) = (wrap64 ((x292000.size : Int) + (wrap64 (8 * (((rd_T46 x1 x9).f3).size : Int))))) then (if 0 ≤ (x292000.size : Int) then (if (x292000.size : Int) ≤ (((rd_T46 x7 x9).f3).size : Int) then (if (((rd_T46 x7 x9).f3).extract 0 ((x292000.size : Int) : Int).toNat).toList = x292000.toList then (if ((rd_T46 x7 x9).f0) = ((rd_T46 x1 x9).f0) then (signalbenchlaw21_SyncRoundTrips.l0 k x1 x2 x7 (wrap64 (x9 + 1)) x292000 x292001 x292002) else (some false)) else (some false)) else (none)) else (none)) else (some false)) else (none)) else (none)) else ((signalbenchlaw21_events.f k x7 x2).bind fun t304 => ((sync_Decode.f k x292000 x292001 x292002 t304).bind fun t307 => (if (t307.length : Int) = (x1.length : Int) then (signalbenchlaw21_SyncRoundTrips.j7 k x1 x2 x7 t307) else (some false))))
def signalbenchlaw21_SyncRoundTrips.j7 : Nat → List (S46) → Int → List (S46) → List (S32) → Option (Bool)
 | 0, _, _, _, _ => none
 | k + 1, x1, x2, x7, x10 => signalbenchlaw21_SyncRoundTrips.l1 k x1 x2 x7 x10 0 0
def signalbenchlaw21_SyncRoundTrips.l1 : Nat → List (S46) → Int → List (S46) → List (S32) → Int → Int → Option (Bool)
 | 0, _, _, _, _, _, _ => none
 | k + 1, x1, x2, x7, x10, x11, x12 => if x12 < (x10.length : Int) then (if 0 ≤ x12 then (if x12 < (x1.length : Int) then (if x12 < (x7.length : Int) then (if (!(((rd_T32 x10 x12).f0) == 5) || (!(((rd_T32 x10 x12).f1) == (wrap64 (x11 + ((rd_T46 x1 x12).f0)))) || (!(((rd_T32 x10 x12).f2) == (wrap64 ((wrap64 (x11 + ((rd_T46 x1 x12).f0))) + (wrap64 (x2 * (((rd_T46 x7 x12).f3).size : Int)))))) || (!(((rd_T32 x10 x12).f3) == 0) || (!(((rd_T32 x10 x12).f4) == 0) || (!((((rd_T32 x10 x12).f5).toList) == (((rd_T46 x1 x12).f3).toList)) || (!(((rd_T32 x10 x12).f6) == 0)))))))) = true then (some false) else (signalbenchlaw21_SyncRoundTrips.l1 k x1 x2 x7 x10 (wrap64 ((wrap64 (x11 + ((rd_T46 x1 x12).f0))) + (wrap64 (x2 * (((rd_T46 x7 x12).f3).size : Int))))) (wrap64 (x12 + 1)))) else (none)) else (none)) else (none)) else (some true)
end
def signalbenchlaw21_SyncRoundTrips.f (k : Nat) (a0_0 : ByteArray) (a0_1 : Int) (a0_2 : Bool) (l1 : List (S46)) (a2 : Int) : Option (Bool) := (signalbenchlaw21_lives.f k).bind fun t292 => (if t292 = true then (signalbenchlaw21_SyncRoundTrips.j0 k l1 a2 a0_0 a0_1 a0_2) else (some false))
theorem signalbenchlaw21_SyncRoundTrips.mono_l : ∀ k, (∀ y0 y1 y2 y3 y4, LeO (signalbenchlaw21_SyncRoundTrips.j0 k y0 y1 y2 y3 y4) (signalbenchlaw21_SyncRoundTrips.j0 (k + 1) y0 y1 y2 y3 y4)) ∧ (∀ y0 y1 y2 y3 y4 y5, LeO (signalbenchlaw21_SyncRoundTrips.j1 k y0 y1 y2 y3 y4 y5) (signalbenchlaw21_SyncRoundTrips.j1 (k + 1) y0 y1 y2 y3 y4 y5)) ∧ (∀ y0 y1 y2 y3 y4, LeO (signalbenchlaw21_SyncRoundTrips.j2 k y0 y1 y2 y3 y4) (signalbenchlaw21_SyncRoundTrips.j2 (k + 1) y0 y1 y2 y3 y4)) ∧ (∀ y0 y1 y2 y3 y4 y5, LeO (signalbenchlaw21_SyncRoundTrips.j3 k y0 y1 y2 y3 y4 y5) (signalbenchlaw21_SyncRoundTrips.j3 (k + 1) y0 y1 y2 y3 y4 y5)) ∧ (∀ y0 y1 y2 y3 y4 y5 y6, LeO (signalbenchlaw21_SyncRoundTrips.j4 k y0 y1 y2 y3 y4 y5 y6) (signalbenchlaw21_SyncRoundTrips.j4 (k + 1) y0 y1 y2 y3 y4 y5 y6)) ∧ (∀ y0 y1 y2 y3 y4 y5, LeO (signalbenchlaw21_SyncRoundTrips.j5 k y0 y1 y2 y3 y4 y5) (signalbenchlaw21_SyncRoundTrips.j5 (k + 1) y0 y1 y2 y3 y4 y5)) ∧ (∀ y0 y1 y2 y3 y4 y5 y6, LeO (signalbenchlaw21_SyncRoundTrips.l0 k y0 y1 y2 y3 y4 y5 y6) (signalbenchlaw21_SyncRoundTrips.l0 (k + 1) y0 y1 y2 y3 y4 y5 y6)) ∧ (∀ y0 y1 y2 y3, LeO (signalbenchlaw21_SyncRoundTrips.j7 k y0 y1 y2 y3) (signalbenchlaw21_SyncRoundTrips.j7 (k + 1) y0 y1 y2 y3)) ∧ (∀ y0 y1 y2 y3 y4 y5, LeO (signalbenchlaw21_SyncRoundTrips.l1 k y0 y1 y2 y3 y4 y5) (signalbenchlaw21_SyncRoundTrips.l1 (k + 1) y0 y1 y2 y3 y4 y5))
 | 0 => ⟨fun _ _ _ _ _ r h => by simp [signalbenchlaw21_SyncRoundTrips.j0] at h, fun _ _ _ _ _ _ r h => by simp [signalbenchlaw21_SyncRoundTrips.j1] at h, fun _ _ _ _ _ r h => by simp [signalbenchlaw21_SyncRoundTrips.j2] at h, fun _ _ _ _ _ _ r h => by simp [signalbenchlaw21_SyncRoundTrips.j3] at h, fun _ _ _ _ _ _ _ r h => by simp [signalbenchlaw21_SyncRoundTrips.j4] at h, fun _ _ _ _ _ _ r h => by simp [signalbenchlaw21_SyncRoundTrips.j5] at h, fun _ _ _ _ _ _ _ r h => by simp [signalbenchlaw21_SyncRoundTrips.l0] at h, fun _ _ _ _ r h => by simp [signalbenchlaw21_SyncRoundTrips.j7] at h, fun _ _ _ _ _ _ r h => by simp [signalbenchlaw21_SyncRoundTrips.l1] at h⟩
 | k + 1 => by
  obtain ⟨ih0, ih1, ih2, ih3, ih4, ih5, ih6, ih7, ih8⟩ := signalbenchlaw21_SyncRoundTrips.mono_l k
  refine ⟨?_, ?_, ?_, ?_, ?_, ?_, ?_, ?_, ?_⟩
  ·intro y0 y1 y2 y3 y4
   unfold signalbenchlaw21_SyncRoundTrips.j0
   repeat' first
   | (with_reducible exact ih0 _ _ _ _ _)
   | (with_reducible exact ih1 _ _ _ _ _ _)
   | (with_reducible exact ih2 _ _ _ _ _)
   | (with_reducible exact ih3 _ _ _ _ _ _)
   | (with_reducible exact ih4 _ _ _ _ _ _ _)
   | (with_reducible exact ih5 _ _ _ _ _ _)
   | (with_reducible exact ih6 _ _ _ _ _ _ _)
   | (with_reducible exact ih7 _ _ _ _)
   | (with_reducible exact ih8 _ _ _ _ _ _)
   | (with_reducible exact signalbenchlaw21_bitItems.mono _ _)
   | (with_reducible exact signalbenchlaw21_events.mono _ _ _)
   | (with_reducible exact signalbenchlaw21_few.mono _ _)
   | (with_reducible exact signalbenchlaw21_lives.mono _)
   | (with_reducible exact sync_Decode.mono _ _ _ _ _)
   | (with_reducible exact sync_Encode.mono _ _ _ _ _)
   | (with_reducible exact LeO.refl _)
   | (with_reducible exact LeO.none _)
   | (with_reducible refine LeO.ite ?_ ?_)
   | (with_reducible refine LeO.bind ?_ (fun _ => ?_))
   | exact ih0 _ _ _ _ _
   | exact ih1 _ _ _ _ _ _
   | exact ih2 _ _ _ _ _
   | exact ih3 _ _ _ _ _ _
   | exact ih4 _ _ _ _ _ _ _
   | exact ih5 _ _ _ _ _ _
   | exact ih6 _ _ _ _ _ _ _
   | exact ih7 _ _ _ _
   | exact ih8 _ _ _ _ _ _
   | exact signalbenchlaw21_bitItems.mono _ _
   | exact signalbenchlaw21_events.mono _ _ _
   | exact signalbenchlaw21_few.mono _ _
   | exact signalbenchlaw21_lives.mono _
   | exact sync_Decode.mono _ _ _ _ _
   | exact sync_Encode.mono _ _ _ _ _
   | exact LeO.none _
   | refine LeO.ite ?_ ?_
   | refine LeO.bind ?_ (fun _ => ?_)
  ·intro y0 y1 y2 y3 y4 y5
   unfold signalbenchlaw21_SyncRoundTrips.j1
   repeat' first
   | (with_reducible exact ih0 _ _ _ _ _)
   | (with_reducible exact ih1 _ _ _ _ _ _)
   | (with_reducible exact ih2 _ _ _ _ _)
   | (with_reducible exact ih3 _ _ _ _ _ _)
   | (with_reducible exact ih4 _ _ _ _ _ _ _)
   | (with_reducible exact ih5 _ _ _ _ _ _)
   | (with_reducible exact ih6 _ _ _ _ _ _ _)
   | (with_reducible exact ih7 _ _ _ _)
   | (with_reducible exact ih8 _ _ _ _ _ _)
   | (with_reducible exact signalbenchlaw21_bitItems.mono _ _)
   | (with_reducible exact signalbenchlaw21_events.mono _ _ _)
   | (with_reducible exact signalbenchlaw21_few.mono _ _)
   | (with_reducible exact signalbenchlaw21_lives.mono _)
   | (with_reducible exact sync_Decode.mono _ _ _ _ _)
   | (with_reducible exact sync_Encode.mono _ _ _ _ _)
   | (with_reducible exact LeO.refl _)
   | (with_reducible exact LeO.none _)
   | (with_reducible refine LeO.ite ?_ ?_)
   | (with_reducible refine LeO.bind ?_ (fun _ => ?_))
   | exact ih0 _ _ _ _ _
   | exact ih1 _ _ _ _ _ _
   | exact ih2 _ _ _ _ _
   | exact ih3 _ _ _ _ _ _
   | exact ih4 _ _ _ _ _ _ _
   | exact ih5 _ _ _ _ _ _
   | exact ih6 _ _ _ _ _ _ _
   | exact ih7 _ _ _ _
   | exact ih8 _ _ _ _ _ _
   | exact signalbenchlaw21_bitItems.mono _ _
   | exact signalbenchlaw21_events.mono _ _ _
   | exact signalbenchlaw21_few.mono _ _
   | exact signalbenchlaw21_lives.mono _
   | exact sync_Decode.mono _ _ _ _ _
   | exact sync_Encode.mono _ _ _ _ _
   | exact LeO.none _
   | refine LeO.ite ?_ ?_
   | refine LeO.bind ?_ (fun _ => ?_)
  ·intro y0 y1 y2 y3 y4
   unfold signalbenchlaw21_SyncRoundTrips.j2
   repeat' first
   | (with_reducible exact ih0 _ _ _ _ _)
   | (with_reducible exact ih1 _ _ _ _ _ _)
   | (with_reducible exact ih2 _ _ _ _ _)
   | (with_reducible exact ih3 _ _ _ _ _ _)
   | (with_reducible exact ih4 _ _ _ _ _ _ _)
   | (with_reducible exact ih5 _ _ _ _ _ _)
   | (with_reducible exact ih6 _ _ _ _ _ _ _)
   | (with_reducible exact ih7 _ _ _ _)
   | (with_reducible exact ih8 _ _ _ _ _ _)
   | (with_reducible exact signalbenchlaw21_bitItems.mono _ _)
   | (with_reducible exact signalbenchlaw21_events.mono _ _ _)
   | (with_reducible exact signalbenchlaw21_few.mono _ _)
   | (with_reducible exact signalbenchlaw21_lives.mono _)
   | (with_reducible exact sync_Decode.mono _ _ _ _ _)
   | (with_reducible exact sync_Encode.mono _ _ _ _ _)
   | (with_reducible exact LeO.refl _)
   | (with_reducible exact LeO.none _)
   | (with_reducible refine LeO.ite ?_ ?_)
   | (with_reducible refine LeO.bind ?_ (fun _ => ?_))
   | exact ih0 _ _ _ _ _
   | exact ih1 _ _ _ _ _ _
   | exact ih2 _ _ _ _ _
   | exact ih3 _ _ _ _ _ _
   | exact ih4 _ _ _ _ _ _ _
   | exact ih5 _ _ _ _ _ _
   | exact ih6 _ _ _ _ _ _ _
   | exact ih7 _ _ _ _
   | exact ih8 _ _ _ _ _ _
   | exact signalbenchlaw21_bitItems.mono _ _
   | exact signalbenchlaw21_events.mono _ _ _
   | exact signalbenchlaw21_few.mono _ _
   | exact signalbenchlaw21_lives.mono _
   | exact sync_Decode.mono _ _ _ _ _
   | exact sync_Encode.mono _ _ _ _ _
   | exact LeO.none _
   | refine LeO.ite ?_ ?_
   | refine LeO.bind ?_ (fun _ => ?_)
  ·intro y0 y1 y2 y3 y4 y5
   unfold signalbenchlaw21_SyncRoundTrips.j3
   repeat' first
   | (with_reducible exact ih0 _ _ _ _ _)
   | (with_reducible exact ih1 _ _ _ _ _ _)
   | (with_reducible exact ih2 _ _ _ _ _)
   | (with_reducible exact ih3 _ _ _ _ _ _)
   | (with_reducible exact ih4 _ _ _ _ _ _ _)
   | (with_reducible exact ih5 _ _ _ _ _ _)
   | (with_reducible exact ih6 _ _ _ _ _ _ _)
   | (with_reducible exact ih7 _ _ _ _)
   | (with_reducible exact ih8 _ _ _ _ _ _)
   | (with_reducible exact signalbenchlaw21_bitItems.mono _ _)
   | (with_reducible exact signalbenchlaw21_events.mono _ _ _)
   | (with_reducible exact signalbenchlaw21_few.mono _ _)
   | (with_reducible exact signalbenchlaw21_lives.mono _)
   | (with_reducible exact sync_Decode.mono _ _ _ _ _)
   | (with_reducible exact sync_Encode.mono _ _ _ _ _)
   | (with_reducible exact LeO.refl _)
   | (with_reducible exact LeO.none _)
   | (with_reducible refine LeO.ite ?_ ?_)
   | (with_reducible refine LeO.bind ?_ (fun _ => ?_))
   | exact ih0 _ _ _ _ _
   | exact ih1 _ _ _ _ _ _
   | exact ih2 _ _ _ _ _
   | exact ih3 _ _ _ _ _ _
   | exact ih4 _ _ _ _ _ _ _
   | exact ih5 _ _ _ _ _ _
   | exact ih6 _ _ _ _ _ _ _
   | exact ih7 _ _ _ _
   | exact ih8 _ _ _ _ _ _
   | exact signalbenchlaw21_bitItems.mono _ _
   | exact signalbenchlaw21_events.mono _ _ _
   | exact signalbenchlaw21_few.mono _ _
   | exact signalbenchlaw21_lives.mono _
   | exact sync_Decode.mono _ _ _ _ _
   | exact sync_Encode.mono _ _ _ _ _
   | exact LeO.none _
   | refine LeO.ite ?_ ?_
   | refine LeO.bind ?_ (fun _ => ?_)
  ·intro y0 y1 y2 y3 y4 y5 y6
   unfold signalbenchlaw21_SyncRoundTrips.j4
   repeat' first
   | (with_reducible exact ih0 _ _ _ _ _)
   | (with_reducible exact ih1 _ _ _ _ _ _)
   | (with_reducible exact ih2 _ _ _ _ _)
   | (with_reducible exact ih3 _ _ _ _ _ _)
   | (with_reducible exact ih4 _ _ _ _ _ _ _)
   | (with_reducible exact ih5 _ _ _ _ _ _)
   | (with_reducible exact ih6 _ _ _ _ _ _ _)
   | (with_reducible exact ih7 _ _ _ _)
   | (with_reducible exact ih8 _ _ _ _ _ _)
   | (with_reducible exact signalbenchlaw21_bitItems.mono _ _)
   | (with_reducible exact signalbenchlaw21_events.mono _ _ _)
   | (with_reducible exact signalbenchlaw21_few.mono _ _)
   | (with_reducible exact signalbenchlaw21_lives.mono _)
   | (with_reducible exact sync_Decode.mono _ _ _ _ _)
   | (with_reducible exact sync_Encode.mono _ _ _ _ _)
   | (with_reducible exact LeO.refl _)
   | (with_reducible exact LeO.none _)
   | (with_reducible refine LeO.ite ?_ ?_)
   | (with_reducible refine LeO.bind ?_ (fun _ => ?_))
   | exact ih0 _ _ _ _ _
   | exact ih1 _ _ _ _ _ _
   | exact ih2 _ _ _ _ _
   | exact ih3 _ _ _ _ _ _
   | exact ih4 _ _ _ _ _ _ _
   | exact ih5 _ _ _ _ _ _
   | exact ih6 _ _ _ _ _ _ _
   | exact ih7 _ _ _ _
   | exact ih8 _ _ _ _ _ _
   | exact signalbenchlaw21_bitItems.mono _ _
   | exact signalbenchlaw21_events.mono _ _ _
   | exact signalbenchlaw21_few.mono _ _
   | exact signalbenchlaw21_lives.mono _
   | exact sync_Decode.mono _ _ _ _ _
   | exact sync_Encode.mono _ _ _ _ _
   | exact LeO.none _
   | refine LeO.ite ?_ ?_
   | refine LeO.bind ?_ (fun _ => ?_)
  ·intro y0 y1 y2 y3 y4 y5
   unfold signalbenchlaw21_SyncRoundTrips.j5
   repeat' first
   | (with_reducible exact ih0 _ _ _ _ _)
   | (with_reducible exact ih1 _ _ _ _ _ _)
   | (with_reducible exact ih2 _ _ _ _ _)
   | (with_reducible exact ih3 _ _ _ _ _ _)
   | (with_reducible exact ih4 _ _ _ _ _ _ _)
   | (with_reducible exact ih5 _ _ _ _ _ _)
   | (with_reducible exact ih6 _ _ _ _ _ _ _)
   | (with_reducible exact ih7 _ _ _ _)
   | (with_reducible exact ih8 _ _ _ _ _ _)
   | (with_reducible exact signalbenchlaw21_bitItems.mono _ _)
   | (with_reducible exact signalbenchlaw21_events.mono _ _ _)
   | (with_reducible exact signalbenchlaw21_few.mono _ _)
   | (with_reducible exact signalbenchlaw21_lives.mono _)
   | (with_reducible exact sync_Decode.mono _ _ _ _ _)
   | (with_reducible exact sync_Encode.mono _ _ _ _ _)
   | (with_reducible exact LeO.refl _)
   | (with_reducible exact LeO.none _)
   | (with_reducible refine LeO.ite ?_ ?_)
   | (with_reducible refine LeO.bind ?_ (fun _ => ?_))
   | exact ih0 _ _ _ _ _
   | exact ih1 _ _ _ _ _ _
   | exact ih2 _ _ _ _ _
   | exact ih3 _ _ _ _ _ _
   | exact ih4 _ _ _ _ _ _ _
   | exact ih5 _ _ _ _ _ _
   | exact ih6 _ _ _ _ _ _ _
   | exact ih7 _ _ _ _
   | exact ih8 _ _ _ _ _ _
   | exact signalbenchlaw21_bitItems.mono _ _
   | exact signalbenchlaw21_events.mono _ _ _
   | exact signalbenchlaw21_few.mono _ _
   | exact signalbenchlaw21_lives.mono _
   | exact sync_Decode.mono _ _ _ _ _
   | exact sync_Encode.mono _ _ _ _ _
   | exact LeO.none _
   | refine LeO.ite ?_ ?_
   | refine LeO.bind ?_ (fun _ => ?_)
  ·intro y0 y1 y2 y3 y4 y5 y6
   unfold signalbenchlaw21_SyncRoundTrips.l0
   repeat' first
   | (with_reducible exact ih0 _ _ _ _ _)
   | (with_reducible exact ih1 _ _ _ _ _ _)
   | (with_reducible exact ih2 _ _ _ _ _)
   | (with_reducible exact ih3 _ _ _ _ _ _)
   | (with_reducible exact ih4 _ _ _ _ _ _ _)
   | (with_reducible exact ih5 _ _ _ _ _ _)
   | (with_reducible exact ih6 _ _ _ _ _ _ _)
   | (with_reducible exact ih7 _ _ _ _)
   | (with_reducible exact ih8 _ _ _ _ _ _)
   | (with_reducible exact signalbenchlaw21_bitItems.mono _ _)
   | (with_reducible exact signalbenchlaw21_events.mono _ _ _)
   | (with_reducible exact signalbenchlaw21_few.mono _ _)
   | (with_reducible exact signalbenchlaw21_lives.mono _)
   | (with_reducible exact sync_Decode.mono _ _ _ _ _)
   | (with_reducible exact sync_Encode.mono _ _ _ _ _)
   | (with_reducible exact LeO.refl _)
   | (with_reducible exact LeO.none _)
   | (with_reducible refine LeO.ite ?_ ?_)
   | (with_reducible refine LeO.bind ?_ (fun _ => ?_))
   | exact ih0 _ _ _ _ _
   | exact ih1 _ _ _ _ _ _
   | exact ih2 _ _ _ _ _
   | exact ih3 _ _ _ _ _ _
   | exact ih4 _ _ _ _ _ _ _
   | exact ih5 _ _ _ _ _ _
   | exact ih6 _ _ _ _ _ _ _
   | exact ih7 _ _ _ _
   | exact ih8 _ _ _ _ _ _
   | exact signalbenchlaw21_bitItems.mono _ _
   | exact signalbenchlaw21_events.mono _ _ _
   | exact signalbenchlaw21_few.mono _ _
   | exact signalbenchlaw21_lives.mono _
   | exact sync_Decode.mono _ _ _ _ _
   | exact sync_Encode.mono _ _ _ _ _
   | exact LeO.none _
   | refine LeO.ite ?_ ?_
   | refine LeO.bind ?_ (fun _ => ?_)
  ·intro y0 y1 y2 y3
   unfold signalbenchlaw21_SyncRoundTrips.j7
   repeat' first
   | (with_reducible exact ih0 _ _ _ _ _)
   | (with_reducible exact ih1 _ _ _ _ _ _)
   | (with_reducible exact ih2 _ _ _ _ _)
   | (with_reducible exact ih3 _ _ _ _ _ _)
   | (with_reducible exact ih4 _ _ _ _ _ _ _)
   | (with_reducible exact ih5 _ _ _ _ _ _)
   | (with_reducible exact ih6 _ _ _ _ _ _ _)
   | (with_reducible exact ih7 _ _ _ _)
   | (with_reducible exact ih8 _ _ _ _ _ _)
   | (with_reducible exact signalbenchlaw21_bitItems.mono _ _)
   | (with_reducible exact signalbenchlaw21_events.mono _ _ _)
   | (with_reducible exact signalbenchlaw21_few.mono _ _)
   | (with_reducible exact signalbenchlaw21_lives.mono _)
   | (with_reducible exact sync_Decode.mono _ _ _ _ _)
   | (with_reducible exact sync_Encode.mono _ _ _ _ _)
   | (with_reducible exact LeO.refl _)
   | (with_reducible exact LeO.none _)
   | (with_reducible refine LeO.ite ?_ ?_)
   | (with_reducible refine LeO.bind ?_ (fun _ => ?_))
   | exact ih0 _ _ _ _ _
   | exact ih1 _ _ _ _ _ _
   | exact ih2 _ _ _ _ _
   | exact ih3 _ _ _ _ _ _
   | exact ih4 _ _ _ _ _ _ _
   | exact ih5 _ _ _ _ _ _
   | exact ih6 _ _ _ _ _ _ _
   | exact ih7 _ _ _ _
   | exact ih8 _ _ _ _ _ _
   | exact signalbenchlaw21_bitItems.mono _ _
   | exact signalbenchlaw21_events.mono _ _ _
   | exact signalbenchlaw21_few.mono _ _
   | exact signalbenchlaw21_lives.mono _
   | exact sync_Decode.mono _ _ _ _ _
   | exact sync_Encode.mono _ _ _ _ _
   | exact LeO.none _
   | refine LeO.ite ?_ ?_
   | refine LeO.bind ?_ (fun _ => ?_)
  ·intro y0 y1 y2 y3 y4 y5
   unfold signalbenchlaw21_SyncRoundTrips.l1
   repeat' first
   | (with_reducible exact ih0 _ _ _ _ _)
   | (with_reducible exact ih1 _ _ _ _ _ _)
   | (with_reducible exact ih2 _ _ _ _ _)
   | (with_reducible exact ih3 _ _ _ _ _ _)
   | (with_reducible exact ih4 _ _ _ _ _ _ _)
   | (with_reducible exact ih5 _ _ _ _ _ _)
   | (with_reducible exact ih6 _ _ _ _ _ _ _)
   | (with_reducible exact ih7 _ _ _ _)
   | (with_reducible exact ih8 _ _ _ _ _ _)
   | (with_reducible exact signalbenchlaw21_bitItems.mono _ _)
   | (with_reducible exact signalbenchlaw21_events.mono _ _ _)
   | (with_reducible exact signalbenchlaw21_few.mono _ _)
   | (with_reducible exact signalbenchlaw21_lives.mono _)
   | (with_reducible exact sync_Decode.mono _ _ _ _ _)
   | (with_reducible exact sync_Encode.mono _ _ _ _ _)
   | (with_reducible exact LeO.refl _)
   | (with_reducible exact LeO.none _)
   | (with_reducible refine LeO.ite ?_ ?_)
   | (with_reducible refine LeO.bind ?_ (fun _ => ?_))
   | exact ih0 _ _ _ _ _
   | exact ih1 _ _ _ _ _ _
   | exact ih2 _ _ _ _ _
   | exact ih3 _ _ _ _ _ _
   | exact ih4 _ _ _ _ _ _ _
   | exact ih5 _ _ _ _ _ _
   | exact ih6 _ _ _ _ _ _ _
   | exact ih7 _ _ _ _
   | exact ih8 _ _ _ _ _ _
   | exact signalbenchlaw21_bitItems.mono _ _
   | exact signalbenchlaw21_events.mono _ _ _
   | exact signalbenchlaw21_few.mono _ _
   | exact signalbenchlaw21_lives.mono _
   | exact sync_Decode.mono _ _ _ _ _
   | exact sync_Encode.mono _ _ _ _ _
   | exact LeO.none _
   | refine LeO.ite ?_ ?_
   | refine LeO.bind ?_ (fun _ => ?_)
theorem signalbenchlaw21_SyncRoundTrips.mono : ∀ a0 a1 a2 a3 a4 k, LeO (signalbenchlaw21_SyncRoundTrips.f k a0 a1 a2 a3 a4) (signalbenchlaw21_SyncRoundTrips.f (k + 1) a0 a1 a2 a3 a4) := by
 intro a0 a1 a2 a3 a4 k
 obtain ⟨ih0, ih1, ih2, ih3, ih4, ih5, ih6, ih7, ih8⟩ := signalbenchlaw21_SyncRoundTrips.mono_l k
 unfold signalbenchlaw21_SyncRoundTrips.f
 repeat' first
   | (with_reducible exact ih0 _ _ _ _ _)
   | (with_reducible exact ih1 _ _ _ _ _ _)
   | (with_reducible exact ih2 _ _ _ _ _)
   | (with_reducible exact ih3 _ _ _ _ _ _)
   | (with_reducible exact ih4 _ _ _ _ _ _ _)
   | (with_reducible exact ih5 _ _ _ _ _ _)
   | (with_reducible exact ih6 _ _ _ _ _ _ _)
   | (with_reducible exact ih7 _ _ _ _)
   | (with_reducible exact ih8 _ _ _ _ _ _)
   | (with_reducible exact signalbenchlaw21_bitItems.mono _ _)
   | (with_reducible exact signalbenchlaw21_events.mono _ _ _)
   | (with_reducible exact signalbenchlaw21_few.mono _ _)
   | (with_reducible exact signalbenchlaw21_lives.mono _)
   | (with_reducible exact sync_Decode.mono _ _ _ _ _)
   | (with_reducible exact sync_Encode.mono _ _ _ _ _)
   | (with_reducible exact LeO.refl _)
   | (with_reducible exact LeO.none _)
   | (with_reducible refine LeO.ite ?_ ?_)
   | (with_reducible refine LeO.bind ?_ (fun _ => ?_))
   | exact ih0 _ _ _ _ _
   | exact ih1 _ _ _ _ _ _
   | exact ih2 _ _ _ _ _
   | exact ih3 _ _ _ _ _ _
   | exact ih4 _ _ _ _ _ _ _
   | exact ih5 _ _ _ _ _ _
   | exact ih6 _ _ _ _ _ _ _
   | exact ih7 _ _ _ _
   | exact ih8 _ _ _ _ _ _
   | exact signalbenchlaw21_bitItems.mono _ _
   | exact signalbenchlaw21_events.mono _ _ _
   | exact signalbenchlaw21_few.mono _ _
   | exact signalbenchlaw21_lives.mono _
   | exact sync_Decode.mono _ _ _ _ _
   | exact sync_Encode.mono _ _ _ _ _
   | exact LeO.none _
   | refine LeO.ite ?_ ?_
   | refine LeO.bind ?_ (fun _ => ?_)
def signalbenchlaw21_SyncRoundTrips.T13 : Bool × List (List Nat × List Nat) := (true, [([], []), ([], []), ([0, 1], [0, 1]), ([2], [2]), ([3], [3]), ([4], [4]), ([], []), ([6], [6]), ([7], [7]), ([], []), ([], []), ([9, 10], [9, 10]), ([11], [11]), ([12], [12]), ([13], [13]), ([14], [14]), ([8, 15], [8, 15]), ([5, 16], [5, 16]), ([17], [17]), ([18], [18]), ([18], [18]), ([19, 20, 18], [18, 19, 20]), ([21, 18], [18, 21]), ([22, 18], [18, 22]), ([18], [18]), ([24, 18], [18, 24]), ([25, 18], [18, 25]), ([23, 26, 18], [18, 23, 26]), ([18], [18]), ([28, 18], [18, 28]), ([27, 29, 18], [18, 27, 29]), ([18, 30], [18, 30]), ([31, 18], [31]), ([32], [32]), ([32], [32]), ([33, 34, 32], [32, 33, 34]), ([35, 32], [32, 35]), ([36, 32], [32, 36]), ([32], [32]), ([32], [32]), ([38, 39, 32], [32, 38, 39]), ([40, 32], [32, 40]), ([41, 32], [32, 41]), ([37, 42, 32], [32, 37, 42]), ([32, 43], [32, 43])])
def signalbenchlaw21_SyncRoundTrips.B13 : List Nat := [0, 0, 3, 7, 15, 31, 0, 64, 192, 0, 0, 1536, 3584, 7680, 15872, 32256, 65472, 131071, 262143, 524287, 524287, 2097151, 4194303, 8388607, 524287, 17301503, 50855935, 134217727, 524287, 268959743, 1073741823, 2147483647, 4294967295, 8589934591, 8589934591, 34359738367, 68719476735, 137438953471, 8589934591, 8589934591, 833223655423, 1932735283199, 4131758538751, 8796093022207, 17592186044415]
theorem signalbenchlaw21_SyncRoundTrips.tab13 : rtab .any (opsOf Try.f5 13) = signalbenchlaw21_SyncRoundTrips.T13 := by kernel_rfl
theorem signalbenchlaw21_SyncRoundTrips.bits13 : waitsOk signalbenchlaw21_SyncRoundTrips.T13.2 signalbenchlaw21_SyncRoundTrips.B13 = true := by kernel_rfl
def signalbenchlaw21_SyncRoundTrips.T24 : Bool × List (List Nat × List Nat) := (true, [([], []), ([], []), ([0, 1], [0, 1]), ([2], [2]), ([], []), ([], []), ([], []), ([], []), ([6, 7], [6, 7]), ([8], [8]), ([9], [9]), ([4, 5, 10], [4, 5, 10]), ([3, 11], [3, 11])])
def signalbenchlaw21_SyncRoundTrips.B24 : List Nat := [0, 0, 3, 7, 0, 0, 0, 0, 192, 448, 960, 2032, 4095]
theorem signalbenchlaw21_SyncRoundTrips.tab24 : rtab .any (opsOf Try.f5 24) = signalbenchlaw21_SyncRoundTrips.T24 := by kernel_rfl
theorem signalbenchlaw21_SyncRoundTrips.bits24 : waitsOk signalbenchlaw21_SyncRoundTrips.T24.2 signalbenchlaw21_SyncRoundTrips.B24 = true := by kernel_rfl
set_option maxHeartbeats 8000000 in
set_option maxRecDepth 100000 in
theorem signalbenchlaw21_SyncRoundTrips.calls (k : Nat) (a0_0 : ByteArray) (a0_1 : Int) (a0_2 : Bool) (A1 : Option Addr) (c1 : Nat) (l1 : List (S46)) (a2 : Int) (r : Bool) (w : World) (hr1 : Kd.C k46 w A1 l1.length l1) (hc1 : l1.length ≤ c1) (h : signalbenchlaw21_SyncRoundTrips.f k a0_0 a0_1 a0_2 l1 a2 = some r) :
  Calls Try.prog 5 #[.agg #[.string a0_0, .int .i64 a0_1, .bool a0_2], .slice A1 l1.length c1, .int .i64 a2] w fun e w' => e = .returned (.bool r) ∧ Below w.heap.size w w' := by
 have hu23 := Try.underlying23
 have hu32 := Try.underlying32
 have HR1 := Aside0.mk hr1
 have HC1 := Aside0.mk hc1
 clear hr1 hc1
 have HB := Aside0.mk (Below.refl w.heap.size w)
 have H : ((signalbenchlaw21_lives.f k).bind fun t292 => (if t292 = true then (signalbenchlaw21_SyncRoundTrips.j0 k l1 a2 a0_0 a0_1 a0_2) else (some false))) = some r := h
 clear h
 replace H := Option.bind_eq_some_iff.mp H
 obtain ⟨t292, A40, H⟩ := H
 replace H : (if t292 = true then (signalbenchlaw21_SyncRoundTrips.j0 k l1 a2 a0_0 a0_1 a0_2) else (some false)) = some r := H
 have A4 := Aside0.mk A40
 clear A40
 have HC5 := Aside0.mk H
 clear H
 go_enter Try.func5, Try.ntmps5
 go_upto_if 15 with (first | ((with_reducible refine gate_dst (N := 3) rfl ?_); (try (refine gate_guard (by first | rfl | (go_simp; done)) ?_; dsimp only)); refine box_event ?hg (N := 3) ?hd (cs := #[.string a0_0, .int .i64 a0_1, .bool a0_2]) (t := 23) ?hr ?_; (case hd => rfl); (case hg => rfl); (case hr => first | (go_simp; done) | (go_simp; rfl)); intro gb291 hg w6 hbox hb; have n0_ := Aside0.mk (below_step (hbw HB.out) hb); have n1_ := Aside0.mk (hbox); have n2_ := Aside0.mk ((by rw [hg]; exact (below_size (hbw HB.out)) : w.heap.size ≤ gb291)); have n3_ := Aside0.mk ((by rw [hg]; exact (below_size (hbw HB.out)) : w.heap.size ≤ gb291)); clear HB; have HB := n0_; have BK291 := n1_; have GW291 := n2_; have GE291 := n3_; clear n0_ n1_ n2_ n3_; clear hb hbox hg) | ((with_reducible refine gate_callee (f := 8) rfl ?_); refine goesL_ (some 14) rfl rfl Try.func8 (by kernel_rfl) rfl #[] rfl (by (try simp only [List.map_toArray, List.map_cons, List.map_nil]); first | done | rfl | (simp only [List.length_drop, List.length_take]; rfl)) ?_; (with_reducible refine (signalbenchlaw21_lives.calls k  t292 _ A4.out).mono ?_); rintro e w7 ⟨rfl, hb⟩; refine ⟨_, rfl, ?_⟩; have n0_ := Aside0.mk (blkb BK291.out hb); have n1_ := Aside0.mk (below_step (hbw HB.out) hb); clear BK291; clear HB; have BK291 := n0_; have HB := n1_; clear n0_ n1_; (try clear hb); (try clear hb2); (try clear hk); (try clear hi)))
 (try simp only [Act.put, List.setIfInBounds_toArray, List.set_cons_zero, List.set_cons_succ])
 go_cut [] (fun wc => ∃ (kq : Nat), Aside0 (signalbenchlaw21_SyncRoundTrips.j0 kq l1 a2 a0_0 a0_1 a0_2 = some r) ∧ Aside0 (kq ≤ k) ∧ Aside0 (wc.heap[gb291]? = some (.cells #[.string a0_0, .int .i64 a0_1, .bool a0_2] 23 (0, 0))) ∧ Aside0 (Below w.heap.size w wc))
 case first => as_aux_lemma =>
  have H := HC5.out
  clear HC5
  by_cases c8 : t292 = true
  ·subst c8
   have H1 : (signalbenchlaw21_SyncRoundTrips.j0 k l1 a2 a0_0 a0_1 a0_2) = some r := by rw [if_pos rfl] at H; exact H
   clear H
   have H := H1
   clear H1
   have H' := Aside0.mk H
   clear H
   go_wp2
   go_meet
   case rel => exact ⟨_, H', ⟨by first | omega | exact Nat.le_refl _⟩, ⟨by (with_reducible repeat (first | refine blk_drewN ?_ _ | refine blk_drew ?_ | refine blk_alloc ?_ _)); exact BK291.out⟩, ⟨by repeat (first | (with_reducible first | exact HB.out | apply below_alloc | apply pw_below_drewN | apply below_drew1 | refine below_set ?_ GE291.out) | exact HB.out)⟩⟩
  ·replace c8 := Bool.eq_false_iff.mpr c8
   subst c8
   have H1 : (some false) = some r := by rw [if_neg (show ¬ (false = true) by decide)] at H; exact H
   clear H
   have H := H1
   clear H1
   obtain rfl := Option.some.inj H
   go_wp2
   go_ret
   exact ⟨by first | rfl | (simp [errW_none, errW_some] <;> rfl) | (simp [*, errW_none, errW_some] <;> rfl), by repeat (first | (with_reducible first | exact HB.out | apply below_alloc | apply pw_below_drewN | apply below_drew1 | refine below_set ?_ GE291.out) | exact HB.out)⟩
 case rest =>
  clear HC5
  try clear c1
  try clear p2
  try clear c5
  try clear c8
  obtain ⟨kq, HA, HJ4, BK291, HB⟩ := hcut
  cases kq with
  | zero => exact absurd HA.out (by simp [signalbenchlaw21_SyncRoundTrips.j0])
  | succ kj4 =>
   have H := HA.out
   clear HA
   simp only [signalbenchlaw21_SyncRoundTrips.j0] at H
   have HC9 := Aside0.mk H
   clear H
   go_upto_region 3 with (fail)
   go_cut [32] (fun v32 wc => ∃ (kq : Nat) (x32_8 : Bool), v32 = .bool x32_8 ∧ Aside0 (signalbenchlaw21_SyncRoundTrips.j1 kq l1 a2 x32_8 a0_0 a0_1 a0_2 = some r) ∧ Aside0 (kq ≤ kj4) ∧ Aside0 (wc.heap[gb291]? = some (.cells #[.string a0_0, .int .i64 a0_1, .bool a0_2] 23 (0, 0))) ∧ Aside0 (Below w.heap.size w wc))
   case first => as_aux_lemma =>
    have H := HC9.out
    clear HC9
    replace H := Option.bind_eq_some_iff.mp H
    obtain ⟨t293, A100, H⟩ := H
    replace H : (if t293 = true then (if a2 < 1 then (signalbenchlaw21_SyncRoundTrips.j1 kj4 l1 a2 true a0_0 a0_1 a0_2) else (if a2 > 1000 then (signalbenchlaw21_SyncRoundTrips.j1 kj4 l1 a2 true a0_0 a0_1 a0_2) else (signalbenchlaw21_SyncRoundTrips.j1 kj4 l1 a2 (decide ((a0_0.size : Int) > 32)) a0_0 a0_1 a0_2))) else (signalbenchlaw21_SyncRoundTrips.j1 kj4 l1 a2 true a0_0 a0_1 a0_2)) = some r := H
    have A10 := Aside0.mk A100
    clear A100
    by_cases c11 : t293 = true
    ·subst c11
     have H1 : (if a2 < 1 then (signalbenchlaw21_SyncRoundTrips.j1 kj4 l1 a2 true a0_0 a0_1 a0_2) else (if a2 > 1000 then (signalbenchlaw21_SyncRoundTrips.j1 kj4 l1 a2 true a0_0 a0_1 a0_2) else (signalbenchlaw21_SyncRoundTrips.j1 kj4 l1 a2 (decide ((a0_0.size : Int) > 32)) a0_0 a0_1 a0_2))) = some r := by rw [if_pos rfl] at H; exact H
     clear H
     have H := H1
     clear H1
     by_cases c12 : a2 < 1
     ·rw [if_pos c12] at H
      have c12b0 : decide (a2 < 1) = true := decide_eq_true c12
      clear c12
      (first | rw [c12b0] | (simp only [i64_w, i32_w]; rw [c12b0]) | skip)
      have H' := Aside0.mk H
      clear H
      go_wp2_with (first | ((with_reducible refine gate_callee (f := 18) rfl ?_); refine goesL_ (some 17) rfl rfl Try.func18 (by kernel_rfl) rfl #[.slice A1 l1.length c1] rfl (by (try simp only [List.map_toArray, List.map_cons, List.map_nil]); first | done | rfl | (simp only [List.length_drop, List.length_take]; rfl)) ?_; (with_reducible refine (signalbenchlaw21_few.calls kj4 _ _ l1 true _ ?side1 ?side2 A10.out).mono ?_); (case side1 => repeat (first | exact (Kd.C_below HR1.out HB.out) | (with_reducible refine Kd.C_alloc ?_ _) | (with_reducible refine Kd.C_drewN ?_ _) | (with_reducible refine Kd.C_drew ?_))); (case side2 => exact HC1.out); rintro e w' ⟨rfl, ⟨nd, rfl⟩⟩; refine ⟨_, rfl, ?_⟩))
      go_meet
      case rel => exact ⟨_, (true), (by first | rfl | (simp; done) | (simp [*]; done)), H', ⟨by have := HJ4.out; first | omega | exact Nat.le_refl _⟩, ⟨by (with_reducible repeat (first | refine blk_drewN ?_ _ | refine blk_drew ?_ | refine blk_alloc ?_ _)); exact BK291.out⟩, ⟨by repeat (first | (with_reducible first | exact HB.out | apply below_alloc | apply pw_below_drewN | apply below_drew1 | refine below_set ?_ GE291.out) | exact HB.out)⟩⟩
     ·rw [if_neg c12] at H
      have c12b0 : decide (a2 < 1) = false := decide_eq_false c12
      clear c12
      (first | rw [c12b0] | (simp only [i64_w, i32_w]; rw [c12b0]) | skip)
      by_cases c13 : a2 > 1000
      ·rw [if_pos c13] at H
       have c13b0 : decide (1000 < a2) = true := decide_eq_true c13
       clear c13
       have H' := Aside0.mk H
       clear H
       go_wp2_with (first | ((with_reducible refine gate_callee (f := 18) rfl ?_); refine goesL_ (some 17) rfl rfl Try.func18 (by kernel_rfl) rfl #[.slice A1 l1.length c1] rfl (by (try simp only [List.map_toArray, List.map_cons, List.map_nil]); first | done | rfl | (simp only [List.length_drop, List.length_take]; rfl)) ?_; (with_reducible refine (signalbenchlaw21_few.calls kj4 _ _ l1 true _ ?side1 ?side2 A10.out).mono ?_); (case side1 => repeat (first | exact (Kd.C_below HR1.out HB.out) | (with_reducible refine Kd.C_alloc ?_ _) | (with_reducible refine Kd.C_drewN ?_ _) | (with_reducible refine Kd.C_drew ?_))); (case side2 => exact HC1.out); rintro e w' ⟨rfl, ⟨nd, rfl⟩⟩; refine ⟨_, rfl, ?_⟩))
       go_meet
       case rel => exact ⟨_, (true), (by first | rfl | (simp; done) | (simp [*]; done)), H', ⟨by have := HJ4.out; first | omega | exact Nat.le_refl _⟩, ⟨by (with_reducible repeat (first | refine blk_drewN ?_ _ | refine blk_drew ?_ | refine blk_alloc ?_ _)); exact BK291.out⟩, ⟨by repeat (first | (with_reducible first | exact HB.out | apply below_alloc | apply pw_below_drewN | apply below_drew1 | refine below_set ?_ GE291.out) | exact HB.out)⟩⟩
      ·rw [if_neg c13] at H
       have c13b0 : decide (1000 < a2) = false := decide_eq_false c13
       clear c13
       have H' := Aside0.mk H
       clear H
       go_wp2_with (first | ((with_reducible refine gate_callee (f := 18) rfl ?_); refine goesL_ (some 17) rfl rfl Try.func18 (by kernel_rfl) rfl #[.slice A1 l1.length c1] rfl (by (try simp only [List.map_toArray, List.map_cons, List.map_nil]); first | done | rfl | (simp only [List.length_drop, List.length_take]; rfl)) ?_; (with_reducible refine (signalbenchlaw21_few.calls kj4 _ _ l1 true _ ?side1 ?side2 A10.out).mono ?_); (case side1 => repeat (first | exact (Kd.C_below HR1.out HB.out) | (with_reducible refine Kd.C_alloc ?_ _) | (with_reducible refine Kd.C_drewN ?_ _) | (with_reducible refine Kd.C_drew ?_))); (case side2 => exact HC1.out); rintro e w' ⟨rfl, ⟨nd, rfl⟩⟩; refine ⟨_, rfl, ?_⟩; have hcz14_0 : wc.cell? ⟨gb291, 0, none⟩ = some (.string a0_0) := (blk_cell BK291.out 0).trans rfl; have hcz14_1 : wc.cell? ⟨gb291, 1, none⟩ = some (.int .i64 a0_1) := (blk_cell BK291.out 1).trans rfl; have hcz14_2 : wc.cell? ⟨gb291, 2, none⟩ = some (.bool a0_2) := (blk_cell BK291.out 2).trans rfl; have hfz14_0 := blk_frozen BK291.out 0; have hfz14_1 := blk_frozen BK291.out 1; have hfz14_2 := blk_frozen BK291.out 2))
       go_meet
       case rel => exact ⟨_, (decide ((a0_0.size : Int) > 32)), (by first | rfl | (simp; done) | (simp [*]; done)), H', ⟨by have := HJ4.out; first | omega | exact Nat.le_refl _⟩, ⟨by (with_reducible repeat (first | refine blk_drewN ?_ _ | refine blk_drew ?_ | refine blk_alloc ?_ _)); exact BK291.out⟩, ⟨by repeat (first | (with_reducible first | exact HB.out | apply below_alloc | apply pw_below_drewN | apply below_drew1 | refine below_set ?_ GE291.out) | exact HB.out)⟩⟩
    ·replace c11 := Bool.eq_false_iff.mpr c11
     subst c11
     have H1 : (signalbenchlaw21_SyncRoundTrips.j1 kj4 l1 a2 true a0_0 a0_1 a0_2) = some r := by rw [if_neg (show ¬ (false = true) by decide)] at H; exact H
     clear H
     have H := H1
     clear H1
     have H' := Aside0.mk H
     clear H
     go_wp2_with (first | ((with_reducible refine gate_callee (f := 18) rfl ?_); refine goesL_ (some 17) rfl rfl Try.func18 (by kernel_rfl) rfl #[.slice A1 l1.length c1] rfl (by (try simp only [List.map_toArray, List.map_cons, List.map_nil]); first | done | rfl | (simp only [List.length_drop, List.length_take]; rfl)) ?_; (with_reducible refine (signalbenchlaw21_few.calls kj4 _ _ l1 false _ ?side1 ?side2 A10.out).mono ?_); (case side1 => repeat (first | exact (Kd.C_below HR1.out HB.out) | (with_reducible refine Kd.C_alloc ?_ _) | (with_reducible refine Kd.C_drewN ?_ _) | (with_reducible refine Kd.C_drew ?_))); (case side2 => exact HC1.out); rintro e w' ⟨rfl, ⟨nd, rfl⟩⟩; refine ⟨_, rfl, ?_⟩))
     go_meet
     case rel => exact ⟨_, (true), (by first | rfl | (simp; done) | (simp [*]; done)), H', ⟨by have := HJ4.out; first | omega | exact Nat.le_refl _⟩, ⟨by (with_reducible repeat (first | refine blk_drewN ?_ _ | refine blk_drew ?_ | refine blk_alloc ?_ _)); exact BK291.out⟩, ⟨by repeat (first | (with_reducible first | exact HB.out | apply below_alloc | apply pw_below_drewN | apply below_drew1 | refine below_set ?_ GE291.out) | exact HB.out)⟩⟩
   case rest =>
    clear HC9
    try clear c1
    try clear p2
    try clear c5
    try clear c8
    try clear c11
    try clear c12
    try clear c12b0
    try clear c13
    try clear c13b0
    try clear hcz14_0
    try clear hcz14_1
    try clear hcz14_2
    try clear hfz14_0
    try clear hfz14_1
    try clear hfz14_2
    try clear p2
    obtain ⟨kq, x32_8, rfl, HA, HJ8, BK291, HB⟩ := hcut
    cases kq with
    | zero => exact absurd HA.out (by simp [signalbenchlaw21_SyncRoundTrips.j1])
    | succ kj8 =>
     have H := HA.out
     clear HA
     simp only [signalbenchlaw21_SyncRoundTrips.j1] at H
     have HC15 := Aside0.mk H
     clear H
     go_upto_if 32 with (fail)
     go_cut [] (fun wc => ∃ (kq : Nat), Aside0 (signalbenchlaw21_SyncRoundTrips.j2 kq l1 a2 a0_0 a0_1 a0_2 = some r) ∧ Aside0 (kq ≤ kj8) ∧ Aside0 (wc.heap[gb291]? = some (.cells #[.string a0_0, .int .i64 a0_1, .bool a0_2] 23 (0, 0))) ∧ Aside0 (Below w.heap.size w wc))
     case first => as_aux_lemma =>
      have H := HC15.out
      clear HC15
      by_cases c16 : x32_8 = true
      ·subst c16
       have H1 : (some true) = some r := by rw [if_pos rfl] at H; exact H
       clear H
       have H := H1
       clear H1
       obtain rfl := Option.some.inj H
       go_wp2
       go_ret
       exact ⟨by first | rfl | (simp [errW_none, errW_some] <;> rfl) | (simp [*, errW_none, errW_some] <;> rfl), by repeat (first | (with_reducible first | exact HB.out | apply below_alloc | apply pw_below_drewN | apply below_drew1 | refine below_set ?_ GE291.out) | exact HB.out)⟩
      ·replace c16 := Bool.eq_false_iff.mpr c16
       subst c16
       have H1 : (signalbenchlaw21_SyncRoundTrips.j2 kj8 l1 a2 a0_0 a0_1 a0_2) = some r := by rw [if_neg (show ¬ (false = true) by decide)] at H; exact H
       clear H
       have H := H1
       clear H1
       have H' := Aside0.mk H
       clear H
       go_wp2
       go_meet
       case rel => exact ⟨_, H', ⟨by have := HJ4.out; have := HJ8.out; first | omega | exact Nat.le_refl _⟩, ⟨by (with_reducible repeat (first | refine blk_drewN ?_ _ | refine blk_drew ?_ | refine blk_alloc ?_ _)); exact BK291.out⟩, ⟨by repeat (first | (with_reducible first | exact HB.out | apply below_alloc | apply pw_below_drewN | apply below_drew1 | refine below_set ?_ GE291.out) | exact HB.out)⟩⟩
     case rest =>
      clear HC15
      try clear c1
      try clear p2
      try clear c5
      try clear c8
      try clear c11
      try clear c12
      try clear c12b0
      try clear c13
      try clear c13b0
      try clear c16
      try clear hcz14_0
      try clear hcz14_1
      try clear hcz14_2
      try clear hfz14_0
      try clear hfz14_1
      try clear hfz14_2
      try clear p2
      obtain ⟨kq, HA, HJ14, BK291, HB⟩ := hcut
      cases kq with
      | zero => exact absurd HA.out (by simp [signalbenchlaw21_SyncRoundTrips.j2])
      | succ kj14 =>
       have H := HA.out
       clear HA
       simp only [signalbenchlaw21_SyncRoundTrips.j2] at H
       replace H := Option.bind_eq_some_iff.mp H
       obtain ⟨⟨t294, t297⟩, A170, H⟩ := H
       replace H : (if t297 = 0 then (signalbenchlaw21_SyncRoundTrips.j3 kj14 l1 a2 t294 a0_0 a0_1 a0_2) else (some ((t294.length : Int) == 0))) = some r := H
       have A17 := Aside0.mk A170
       clear A170
       have HC18 := Aside0.mk H
       clear H
       have hcz19_0 : wc.cell? ⟨gb291, 0, none⟩ = some (.string a0_0) := (blk_cell BK291.out 0).trans rfl
       have hcz19_1 : wc.cell? ⟨gb291, 1, none⟩ = some (.int .i64 a0_1) := (blk_cell BK291.out 1).trans rfl
       have hcz19_2 : wc.cell? ⟨gb291, 2, none⟩ = some (.bool a0_2) := (blk_cell BK291.out 2).trans rfl
       have hfz19_0 := blk_frozen BK291.out 0
       have hfz19_1 := blk_frozen BK291.out 1
       have hfz19_2 := blk_frozen BK291.out 2
       go_upto_if 40 with (first | ((with_reducible refine gate_callee (f := 19) rfl ?_); refine goesL_ (some 36) rfl rfl Try.func19 (by kernel_rfl) rfl #[.agg #[.string a0_0, .int .i64 a0_1, .bool a0_2], .slice A1 l1.length c1] rfl (by (try simp only [List.map_toArray, List.map_cons, List.map_nil]); first | done | rfl | (simp only [List.length_drop, List.length_take]; rfl)) ?_; (with_reducible refine (sync_Encode.calls kj14 a0_0 a0_1 a0_2 _ _ l1 t294 t297 _ ?side1 ?side2 A17.out).mono ?_); (case side1 => repeat (first | exact (Kd.C_below HR1.out HB.out) | (with_reducible refine Kd.C_alloc ?_ _) | (with_reducible refine Kd.C_drewN ?_ _) | (with_reducible refine Kd.C_drew ?_))); (case side2 => exact HC1.out); rintro e w20 ⟨v295, rfl, ho0, hb⟩; refine ⟨_, rfl, ?_⟩; have n0_ := Aside0.mk (Kd.R_lower ho0 (below_size (hbw HB.out))); have n1_ := Aside0.mk (blkb BK291.out hb); have n2_ := Aside0.mk (below_step (hbw HB.out) hb); clear BK291; clear HB; have HO296 := n0_; have BK291 := n1_; have HB := n2_; clear n0_ n1_ n2_; (try clear hb); (try clear hb2); (try clear hk); (try clear hi); (try clear ho0)))
       (try simp only [Act.put, List.setIfInBounds_toArray, List.set_cons_zero, List.set_cons_succ])
       go_cut [] (fun wc => ∃ (kq : Nat), Aside0 (signalbenchlaw21_SyncRoundTrips.j3 kq l1 a2 t294 a0_0 a0_1 a0_2 = some r) ∧ Aside0 (kq ≤ kj14) ∧ Aside0 (Kd.R k46 46 wc w.heap.size (fun _ => True) v295 t294) ∧ Aside0 (wc.heap[gb291]? = some (.cells #[.string a0_0, .int .i64 a0_1, .bool a0_2] 23 (0, 0))) ∧ Aside0 (Below w.heap.size w wc))
       case first => as_aux_lemma =>
        have H := HC18.out
        clear HC18
        by_cases c21 : t297 = 0
        ·rw [if_pos c21] at H
         have c21b0 : (t297 == 0) = true := beq_iff_eq.mpr c21
         have c21b1 : (t297 != 0) = false := bne_eq_false_iff_eq.mpr c21
         clear c21
         (first | rw [c21b0] | (simp only [i64_w, i32_w]; rw [c21b0]) | skip)
         have H' := Aside0.mk H
         clear H
         go_wp2
         go_meet
         case rel => exact ⟨_, H', ⟨by have := HJ4.out; have := HJ8.out; have := HJ14.out; first | omega | exact Nat.le_refl _⟩, ⟨by (with_reducible repeat (first | apply Kd.R_alloc | apply Kd.R_drewN | apply Kd.R_drew)); exact HO296.out⟩, ⟨by (with_reducible repeat (first | refine blk_drewN ?_ _ | refine blk_drew ?_ | refine blk_alloc ?_ _)); exact BK291.out⟩, ⟨by repeat (first | (with_reducible first | exact HB.out | apply below_alloc | apply pw_below_drewN | apply below_drew1 | refine below_set ?_ GE291.out) | exact HB.out)⟩⟩
        ·rw [if_neg c21] at H
         have c21b0 : (t297 == 0) = false := beq_eq_false_iff_ne.mpr c21
         have c21b1 : (t297 != 0) = true := bne_iff_ne.mpr c21
         (first | rw [c21b0] | (simp only [i64_w, i32_w]; rw [c21b0]) | skip)
         obtain rfl := Option.some.inj H
         obtain ⟨Ao22, co22, eo22⟩ := Kd.R_slice HO296.out
         subst eo22
         go_wp2
         go_ret
         exact ⟨by first | rfl | (simp [errW_none, errW_some] <;> rfl) | (simp [*, errW_none, errW_some] <;> rfl), by repeat (first | (with_reducible first | exact HB.out | apply below_alloc | apply pw_below_drewN | apply below_drew1 | refine below_set ?_ GE291.out) | exact HB.out)⟩
       case rest =>
        clear HC18
        try clear c1
        try clear c2
        try clear p2
        try clear c5
        try clear c8
        try clear c11
        try clear c12
        try clear c12b0
        try clear c13
        try clear c13b0
        try clear c16
        try clear c18
        try clear c19
        try clear c21
        try clear c21b0
        try clear c21b1
        try clear hcz14_0
        try clear hcz14_1
        try clear hcz14_2
        try clear hcz19_0
        try clear hcz19_1
        try clear hcz19_2
        try clear hfz14_0
        try clear hfz14_1
        try clear hfz14_2
        try clear hfz19_0
        try clear hfz19_1
        try clear hfz19_2
        try clear p2
        obtain ⟨kq, HA, HJ17, HO_7, BK291, HB⟩ := hcut
        cases kq with
        | zero => exact absurd HA.out (by simp [signalbenchlaw21_SyncRoundTrips.j3])
        | succ kj17 =>
         have H := HA.out
         clear HA
         simp only [signalbenchlaw21_SyncRoundTrips.j3] at H
         have HC23 := Aside0.mk H
         clear H
         go_upto_region 8 with (fail)
         go_cut [53] (fun v53 wc => ∃ (kq : Nat) (x53_22 : Bool), v53 = .bool x53_22 ∧ Aside0 (signalbenchlaw21_SyncRoundTrips.j4 kq l1 a2 t294 x53_22 a0_0 a0_1 a0_2 = some r) ∧ Aside0 (kq ≤ kj17) ∧ Aside0 (Kd.R k46 46 wc w.heap.size (fun _ => True) v295 t294) ∧ Aside0 (wc.heap[gb291]? = some (.cells #[.string a0_0, .int .i64 a0_1, .bool a0_2] 23 (0, 0))) ∧ Aside0 (Below w.heap.size w wc))
         case first => as_aux_lemma =>
          have H := HC23.out
          clear HC23
          by_cases c24 : (t294.length : Int) = (l1.length : Int)
          ·rw [if_pos c24] at H
           have c24b0 : ((t294.length : Int) == (l1.length : Int)) = true := beq_iff_eq.mpr c24
           have c24b1 : ((t294.length : Int) != (l1.length : Int)) = false := bne_eq_false_iff_eq.mpr c24
           have c24b2 : (t294.length == l1.length) = true := by first | simpa using c24 | (simp at c24 ⊢; omega)
           clear c24
           (first | rw [c24b0] | (simp only [i64_w, i32_w]; rw [c24b0]) | skip)
           replace H := Option.bind_eq_some_iff.mp H
           obtain ⟨t298, A250, H⟩ := H
           replace H : (signalbenchlaw21_SyncRoundTrips.j4 kj17 l1 a2 t294 (!t298) a0_0 a0_1 a0_2) = some r := H
           have A25 := Aside0.mk A250
           clear A250
           have H' := Aside0.mk H
           clear H
           obtain ⟨Ao26, co26, eo26⟩ := Kd.R_slice HO_7.out
           subst eo26
           go_wp2_with (first | (go_at_call 24; (with_reducible refine (signalbenchlaw21_bitItems.calls kj17 _ _ t294 t298 _ ?side1 ?side2 A25.out).mono ?_); (case side1 => repeat (first | exact (Kd.R_reads' HO_7.out).2.2 | (with_reducible refine Kd.C_alloc ?_ _) | (with_reducible refine Kd.C_drewN ?_ _) | (with_reducible refine Kd.C_drew ?_))); (case side2 => exact (Kd.R_reads' HO_7.out).2.1); rintro e w' ⟨rfl, ⟨nd, rfl⟩⟩))
           go_meet
           case rel => exact ⟨_, (!t298), (by first | rfl | (simp; done) | (simp [*]; done)), H', ⟨by have := HJ4.out; have := HJ8.out; have := HJ14.out; have := HJ17.out; first | omega | exact Nat.le_refl _⟩, ⟨by (with_reducible repeat (first | apply Kd.R_alloc | apply Kd.R_drewN | apply Kd.R_drew)); exact HO_7.out⟩, ⟨by (with_reducible repeat (first | refine blk_drewN ?_ _ | refine blk_drew ?_ | refine blk_alloc ?_ _)); exact BK291.out⟩, ⟨by repeat (first | (with_reducible first | exact HB.out | apply below_alloc | apply pw_below_drewN | apply below_drew1 | refine below_set ?_ GE291.out) | exact HB.out)⟩⟩
          ·rw [if_neg c24] at H
           have c24b0 : ((t294.length : Int) == (l1.length : Int)) = false := beq_eq_false_iff_ne.mpr c24
           have c24b1 : ((t294.length : Int) != (l1.length : Int)) = true := bne_iff_ne.mpr c24
           have c24b2 : (t294.length == l1.length) = false := by first | simpa using c24 | (simp at c24 ⊢; omega)
           (first | rw [c24b0] | (simp only [i64_w, i32_w]; rw [c24b0]) | skip)
           have H' := Aside0.mk H
           clear H
           obtain ⟨Ao27, co27, eo27⟩ := Kd.R_slice HO_7.out
           subst eo27
           go_wp2
           go_meet
           case rel => exact ⟨_, (true), (by first | rfl | (simp; done) | (simp [*]; done)), H', ⟨by have := HJ4.out; have := HJ8.out; have := HJ14.out; have := HJ17.out; first | omega | exact Nat.le_refl _⟩, ⟨by (with_reducible repeat (first | apply Kd.R_alloc | apply Kd.R_drewN | apply Kd.R_drew)); exact HO_7.out⟩, ⟨by (with_reducible repeat (first | refine blk_drewN ?_ _ | refine blk_drew ?_ | refine blk_alloc ?_ _)); exact BK291.out⟩, ⟨by repeat (first | (with_reducible first | exact HB.out | apply below_alloc | apply pw_below_drewN | apply below_drew1 | refine below_set ?_ GE291.out) | exact HB.out)⟩⟩
         case rest =>
          clear HC23
          try clear c1
          try clear c2
          try clear p2
          try clear c5
          try clear c8
          try clear c11
          try clear c12
          try clear c12b0
          try clear c13
          try clear c13b0
          try clear c16
          try clear c18
          try clear c19
          try clear c21
          try clear c21b0
          try clear c21b1
          try clear c24
          try clear c24b0
          try clear c24b1
          try clear c24b2
          try clear hcz14_0
          try clear hcz14_1
          try clear hcz14_2
          try clear hcz19_0
          try clear hcz19_1
          try clear hcz19_2
          try clear hfz14_0
          try clear hfz14_1
          try clear hfz14_2
          try clear hfz19_0
          try clear hfz19_1
          try clear hfz19_2
          try clear p2
          obtain ⟨kq, x53_22, rfl, HA, HJ22, HO_7, BK291, HB⟩ := hcut
          cases kq with
          | zero => exact absurd HA.out (by simp [signalbenchlaw21_SyncRoundTrips.j4])
          | succ kj22 =>
           have H := HA.out
           clear HA
           simp only [signalbenchlaw21_SyncRoundTrips.j4] at H
           have HC28 := Aside0.mk H
           clear H
           go_upto_if 53 with (fail)
           go_cut [] (fun wc => ∃ (kq : Nat), Aside0 (signalbenchlaw21_SyncRoundTrips.j5 kq l1 a2 t294 a0_0 a0_1 a0_2 = some r) ∧ Aside0 (kq ≤ kj22) ∧ Aside0 (Kd.R k46 46 wc w.heap.size (fun _ => True) v295 t294) ∧ Aside0 (wc.heap[gb291]? = some (.cells #[.string a0_0, .int .i64 a0_1, .bool a0_2] 23 (0, 0))) ∧ Aside0 (Below w.heap.size w wc))
           case first => as_aux_lemma =>
            have H := HC28.out
            clear HC28
            by_cases c29 : x53_22 = true
            ·subst c29
             have H1 : (some false) = some r := by rw [if_pos rfl] at H; exact H
             clear H
             have H := H1
             clear H1
             obtain rfl := Option.some.inj H
             go_wp2
             go_ret
             exact ⟨by first | rfl | (simp [errW_none, errW_some] <;> rfl) | (simp [*, errW_none, errW_some] <;> rfl), by repeat (first | (with_reducible first | exact HB.out | apply below_alloc | apply pw_below_drewN | apply below_drew1 | refine below_set ?_ GE291.out) | exact HB.out)⟩
            ·replace c29 := Bool.eq_false_iff.mpr c29
             subst c29
             have H1 : (signalbenchlaw21_SyncRoundTrips.j5 kj22 l1 a2 t294 a0_0 a0_1 a0_2) = some r := by rw [if_neg (show ¬ (false = true) by decide)] at H; exact H
             clear H
             have H := H1
             clear H1
             have H' := Aside0.mk H
             clear H
             go_wp2
             go_meet
             case rel => exact ⟨_, H', ⟨by have := HJ4.out; have := HJ8.out; have := HJ14.out; have := HJ17.out; have := HJ22.out; first | omega | exact Nat.le_refl _⟩, ⟨by (with_reducible repeat (first | apply Kd.R_alloc | apply Kd.R_drewN | apply Kd.R_drew)); exact HO_7.out⟩, ⟨by (with_reducible repeat (first | refine blk_drewN ?_ _ | refine blk_drew ?_ | refine blk_alloc ?_ _)); exact BK291.out⟩, ⟨by repeat (first | (with_reducible first | exact HB.out | apply below_alloc | apply pw_below_drewN | apply below_drew1 | refine below_set ?_ GE291.out) | exact HB.out)⟩⟩
           case rest =>
            clear HC28
            try clear c1
            try clear c2
            try clear p2
            try clear c5
            try clear c8
            try clear c11
            try clear c12
            try clear c12b0
            try clear c13
            try clear c13b0
            try clear c16
            try clear c18
            try clear c19
            try clear c21
            try clear c21b0
            try clear c21b1
            try clear c24
            try clear c24b0
            try clear c24b1
            try clear c24b2
            try clear c29
            try clear hcz14_0
            try clear hcz14_1
            try clear hcz14_2
            try clear hcz19_0
            try clear hcz19_1
            try clear hcz19_2
            try clear hfz14_0
            try clear hfz14_1
            try clear hfz14_2
            try clear hfz19_0
            try clear hfz19_1
            try clear hfz19_2
            try clear p2
            obtain ⟨kq, HA, HJ27, HO_7, BK291, HB⟩ := hcut
            cases kq with
            | zero => exact absurd HA.out (by simp [signalbenchlaw21_SyncRoundTrips.j5])
            | succ kj27 =>
             have H := HA.out
             clear HA
             simp only [signalbenchlaw21_SyncRoundTrips.j5] at H
             have H' := Aside0.mk H
             clear H
             go_wp2
             go_loopg [9] kj27 (fun kq v9 w' => ∃ (x9_7 : Int), v9 = .int .i64 x9_7 ∧ Aside0 (signalbenchlaw21_SyncRoundTrips.l0 kq l1 a2 t294 x9_7 a0_0 a0_1 a0_2 = some r) ∧ Aside0 (kq ≤ kj27) ∧ Aside0 (Kd.R k46 46 w' w.heap.size (fun _ => True) v295 t294) ∧ Aside0 (w'.heap[gb291]? = some (.cells #[.string a0_0, .int .i64 a0_1, .bool a0_2] 23 (0, 0))) ∧ Aside0 (Below w.heap.size w w'))
             case atStart => exact ⟨(0), (by first | rfl | (simp; done) | (simp [*]; done)), H', ⟨Nat.le_refl _⟩, ⟨by (with_reducible repeat (first | apply Kd.R_alloc | apply Kd.R_drewN | apply Kd.R_drew)); exact HO_7.out⟩, ⟨by (with_reducible repeat (first | refine blk_drewN ?_ _ | refine blk_drew ?_ | refine blk_alloc ?_ _)); exact BK291.out⟩, ⟨by repeat (first | (with_reducible first | exact HB.out | apply below_alloc | apply pw_below_drewN | apply below_drew1 | refine below_set ?_ GE291.out) | exact HB.out)⟩⟩
             case round => as_aux_lemma =>
              clear H'
              try clear c1
              try clear c2
              try clear p2
              try clear c5
              try clear c8
              try clear c11
              try clear c12
              try clear c12b0
              try clear c13
              try clear c13b0
              try clear c16
              try clear c18
              try clear c19
              try clear c21
              try clear c21b0
              try clear c21b1
              try clear c24
              try clear c24b0
              try clear c24b1
              try clear c24b2
              try clear c29
              try clear hcz14_0
              try clear hcz14_1
              try clear hcz14_2
              try clear hcz19_0
              try clear hcz19_1
              try clear hcz19_2
              try clear hfz14_0
              try clear hfz14_1
              try clear hfz14_2
              try clear hfz19_0
              try clear hfz19_1
              try clear hfz19_2
              try clear p2
              obtain ⟨x9_7, rfl, HA, HK7, HO_7, BK291, HB⟩ := hrel
              cases gk with
              | zero => exact absurd HA.out (by simp [signalbenchlaw21_SyncRoundTrips.l0])
              | succ k7 =>
               have H := HA.out
               clear HA
               simp only [signalbenchlaw21_SyncRoundTrips.l0] at H
               by_cases c30 : x9_7 < (t294.length : Int)
               ·rw [if_pos c30] at H
                have c30b0 : decide (x9_7 < (t294.length : Int)) = true := decide_eq_true c30
                clear c30
                by_cases c31 : 0 ≤ x9_7
                ·rw [if_pos c31] at H
                 have c31b0 : decide (0 ≤ x9_7) = true := decide_eq_true c31
                 clear c31
                 by_cases c32 : x9_7 < (l1.length : Int)
                 ·rw [if_pos c32] at H
                  have c32b0 : decide (x9_7 < (l1.length : Int)) = true := decide_eq_true c32
                  clear c32
                  by_cases c33 : (((rd_T46 t294 x9_7).f3).size : Int) = (wrap64 ((a0_0.size : Int) + (wrap64 (8 * (((rd_T46 l1 x9_7).f3).size : Int)))))
                  ·rw [if_pos c33] at H
                   have c33b0 : ((((rd_T46 t294 x9_7).f3).size : Int) == (wrap64 ((a0_0.size : Int) + (wrap64 (8 * (((rd_T46 l1 x9_7).f3).size : Int)))))) = true := beq_iff_eq.mpr c33
                   have c33b1 : ((((rd_T46 t294 x9_7).f3).size : Int) != (wrap64 ((a0_0.size : Int) + (wrap64 (8 * (((rd_T46 l1 x9_7).f3).size : Int)))))) = false := bne_eq_false_iff_eq.mpr c33
                   clear c33
                   by_cases c34 : 0 ≤ (a0_0.size : Int)
                   ·rw [if_pos c34] at H
                    have c34b0 := eq_true c34
                    have c34b1 : decide (0 ≤ (a0_0.size : Int)) = true := decide_eq_true c34
                    clear c34
                    by_cases c35 : (a0_0.size : Int) ≤ (((rd_T46 t294 x9_7).f3).size : Int)
                    ·rw [if_pos c35] at H
                     have c35b0 := eq_true c35
                     have c35b1 : decide ((a0_0.size : Int) ≤ (((rd_T46 t294 x9_7).f3).size : Int)) = true := decide_eq_true c35
                     clear c35
                     by_cases c36 : (((rd_T46 t294 x9_7).f3).extract 0 ((a0_0.size : Int) : Int).toNat).toList = a0_0.toList
                     ·rw [if_pos c36] at H
                      have c36b0 : ((((rd_T46 t294 x9_7).f3).extract 0 ((a0_0.size : Int) : Int).toNat).toList == a0_0.toList) = true := beq_iff_eq.mpr c36
                      have c36z0 := c36b0; simp only [Int.toNat_natCast] at c36z0
                      have c36b1 : ((((rd_T46 t294 x9_7).f3).extract 0 ((a0_0.size : Int) : Int).toNat).toList != a0_0.toList) = false := bne_eq_false_iff_eq.mpr c36
                      have c36z1 := c36b1; simp only [Int.toNat_natCast] at c36z1
                      clear c36
                      by_cases c37 : ((rd_T46 t294 x9_7).f0) = ((rd_T46 l1 x9_7).f0)
                      ·rw [if_pos c37] at H
                       have c37b0 : (((rd_T46 t294 x9_7).f0) == ((rd_T46 l1 x9_7).f0)) = true := beq_iff_eq.mpr c37
                       have c37b1 : (((rd_T46 t294 x9_7).f0) != ((rd_T46 l1 x9_7).f0)) = false := bne_eq_false_iff_eq.mpr c37
                       clear c37
                       have H' := Aside0.mk H
                       clear H
                       obtain ⟨Ao38, co38, eo38⟩ := Kd.R_slice HO_7.out
                       subst eo38
                       try go_wp2
                       have n0_ := Aside0.mk (Kd.R_drew HO_7.out)
                       have n1_ := Aside0.mk (blk_drew BK291.out)
                       have n2_ := Aside0.mk (below_drew1 HB.out)
                       clear HO_7
                       clear BK291
                       clear HB
                       have HO_7 := n0_
                       have BK291 := n1_
                       have HB := n2_
                       clear n0_ n1_ n2_
                       have p299 : 0 ≤ (x9_7 : Int) := of_decide_eq_true (by first | (with_reducible assumption) | assumption)
                       have q299 : x9_7 < (t294.length : Int) := of_decide_eq_true (by first | (with_reducible assumption) | assumption)
                       obtain ⟨ad299, e299, hx299_0, hx299_1, hx299_2, hx299_3, hx299_4⟩ := at_T46 (Kd.R_reads' HO_7.out).2.2 x9_7 p299 q299
                       cases e299
                       replace p299 := eq_true p299
                       replace q299 := eq_true q299
                       have p300 : 0 ≤ (x9_7 : Int) := of_decide_eq_true (by first | (with_reducible assumption) | assumption)
                       have q300 : x9_7 < (l1.length : Int) := of_decide_eq_true (by first | (with_reducible assumption) | assumption)
                       obtain ⟨ad300, e300, hx300_0, hx300_1, hx300_2, hx300_3, hx300_4⟩ := at_T46 HR1.out x9_7 p300 q300
                       have hw300_4 := hx300_4
                       have hw300_3 := hx300_3
                       have hw300_2 := hx300_2
                       have hw300_1 := hx300_1
                       have hw300_0 := hx300_0
                       cases e300
                       replace hx300_0 := (HB.out.cell (World.block_lt_of_cell? w _ hx300_0)).trans hx300_0
                       replace hx300_1 := (HB.out.cell (World.block_lt_of_cell? w _ hx300_1)).trans hx300_1
                       replace hx300_2 := (HB.out.cell (World.block_lt_of_cell? w _ hx300_2)).trans hx300_2
                       replace hx300_3 := (HB.out.cell (World.block_lt_of_cell? w _ hx300_3)).trans hx300_3
                       replace hx300_4 := (HB.out.cell (World.block_lt_of_cell? w _ hx300_4)).trans hx300_4
                       replace p300 := eq_true p300
                       replace q300 := eq_true q300
                       have p301 : 0 ≤ (x9_7 : Int) := of_decide_eq_true (by first | (with_reducible assumption) | assumption)
                       have q301 : x9_7 < (t294.length : Int) := of_decide_eq_true (by first | (with_reducible assumption) | assumption)
                       obtain ⟨ad301, e301, hx301_0, hx301_1, hx301_2, hx301_3, hx301_4⟩ := at_T46 (Kd.R_reads' HO_7.out).2.2 x9_7 p301 q301
                       obtain rfl : ad299 = ad301 := (by injection e301)
                       replace p301 := eq_true p301
                       replace q301 := eq_true q301
                       have p302 : 0 ≤ (x9_7 : Int) := of_decide_eq_true (by first | (with_reducible assumption) | assumption)
                       have q302 : x9_7 < (t294.length : Int) := of_decide_eq_true (by first | (with_reducible assumption) | assumption)
                       obtain ⟨ad302, e302, hx302_0, hx302_1, hx302_2, hx302_3, hx302_4⟩ := at_T46 (Kd.R_reads' HO_7.out).2.2 x9_7 p302 q302
                       obtain rfl : ad299 = ad302 := (by injection e302)
                       replace p302 := eq_true p302
                       replace q302 := eq_true q302
                       have p303 : 0 ≤ (x9_7 : Int) := of_decide_eq_true (by first | (with_reducible assumption) | assumption)
                       have q303 : x9_7 < (l1.length : Int) := of_decide_eq_true (by first | (with_reducible assumption) | assumption)
                       obtain ⟨ad303, e303, hx303_0, hx303_1, hx303_2, hx303_3, hx303_4⟩ := at_T46 HR1.out x9_7 p303 q303
                       have hw303_4 := hx303_4
                       have hw303_3 := hx303_3
                       have hw303_2 := hx303_2
                       have hw303_1 := hx303_1
                       have hw303_0 := hx303_0
                       obtain rfl : ad300 = ad303 := (by injection e303)
                       replace hx303_0 := (HB.out.cell (World.block_lt_of_cell? w _ hx303_0)).trans hx303_0
                       replace hx303_1 := (HB.out.cell (World.block_lt_of_cell? w _ hx303_1)).trans hx303_1
                       replace hx303_2 := (HB.out.cell (World.block_lt_of_cell? w _ hx303_2)).trans hx303_2
                       replace hx303_3 := (HB.out.cell (World.block_lt_of_cell? w _ hx303_3)).trans hx303_3
                       replace hx303_4 := (HB.out.cell (World.block_lt_of_cell? w _ hx303_4)).trans hx303_4
                       replace p303 := eq_true p303
                       replace q303 := eq_true q303
                       refine start_ (n := 45) (S := fun w' => w'.cell? ⟨gb291, 0, none⟩ = some (.string a0_0) ∧ w'.cell? ⟨gb291, 1, none⟩ = some (.int .i64 a0_1) ∧ w'.cell? ⟨gb291, 2, none⟩ = some (.bool a0_2) ∧ w'.cell? (ad299.add ((x9_7).toNat * 5)) = some (.int .i64 ((rd_T46 t294 x9_7).f0)) ∧ w'.cell? ⟨(ad299.add ((x9_7).toNat * 5)).block, (ad299.add ((x9_7).toNat * 5)).off + 1, none⟩ = some (.int .i64 ((rd_T46 t294 x9_7).f1)) ∧ w'.cell? ⟨(ad299.add ((x9_7).toNat * 5)).block, (ad299.add ((x9_7).toNat * 5)).off + 2, none⟩ = some (.int .i64 ((rd_T46 t294 x9_7).f2)) ∧ w'.cell? ⟨(ad299.add ((x9_7).toNat * 5)).block, (ad299.add ((x9_7).toNat * 5)).off + 3, none⟩ = some (.string ((rd_T46 t294 x9_7).f3)) ∧ w'.cell? ⟨(ad299.add ((x9_7).toNat * 5)).block, (ad299.add ((x9_7).toNat * 5)).off + 4, none⟩ = some (.int .i64 ((rd_T46 t294 x9_7).f4)) ∧ w'.cell? (ad300.add ((x9_7).toNat * 5)) = some (.int .i64 ((rd_T46 l1 x9_7).f0)) ∧ w'.cell? ⟨(ad300.add ((x9_7).toNat * 5)).block, (ad300.add ((x9_7).toNat * 5)).off + 1, none⟩ = some (.int .i64 ((rd_T46 l1 x9_7).f1)) ∧ w'.cell? ⟨(ad300.add ((x9_7).toNat * 5)).block, (ad300.add ((x9_7).toNat * 5)).off + 2, none⟩ = some (.int .i64 ((rd_T46 l1 x9_7).f2)) ∧ w'.cell? ⟨(ad300.add ((x9_7).toNat * 5)).block, (ad300.add ((x9_7).toNat * 5)).off + 3, none⟩ = some (.string ((rd_T46 l1 x9_7).f3)) ∧ w'.cell? ⟨(ad300.add ((x9_7).toNat * 5)).block, (ad300.add ((x9_7).toNat * 5)).off + 4, none⟩ = some (.int .i64 ((rd_T46 l1 x9_7).f4)) ∧ w'.cell? (ad299.add ((x9_7).toNat * 5)) = some (.int .i64 ((rd_T46 t294 x9_7).f0)) ∧ w'.cell? ⟨(ad299.add ((x9_7).toNat * 5)).block, (ad299.add ((x9_7).toNat * 5)).off + 1, none⟩ = some (.int .i64 ((rd_T46 t294 x9_7).f1)) ∧ w'.cell? ⟨(ad299.add ((x9_7).toNat * 5)).block, (ad299.add ((x9_7).toNat * 5)).off + 2, none⟩ = some (.int .i64 ((rd_T46 t294 x9_7).f2)) ∧ w'.cell? ⟨(ad299.add ((x9_7).toNat * 5)).block, (ad299.add ((x9_7).toNat * 5)).off + 3, none⟩ = some (.string ((rd_T46 t294 x9_7).f3)) ∧ w'.cell? ⟨(ad299.add ((x9_7).toNat * 5)).block, (ad299.add ((x9_7).toNat * 5)).off + 4, none⟩ = some (.int .i64 ((rd_T46 t294 x9_7).f4)) ∧ w'.cell? (ad299.add ((x9_7).toNat * 5)) = some (.int .i64 ((rd_T46 t294 x9_7).f0)) ∧ w'.cell? ⟨(ad299.add ((x9_7).toNat * 5)).block, (ad299.add ((x9_7).toNat * 5)).off + 1, none⟩ = some (.int .i64 ((rd_T46 t294 x9_7).f1)) ∧ w'.cell? ⟨(ad299.add ((x9_7).toNat * 5)).block, (ad299.add ((x9_7).toNat * 5)).off + 2, none⟩ = some (.int .i64 ((rd_T46 t294 x9_7).f2)) ∧ w'.cell? ⟨(ad299.add ((x9_7).toNat * 5)).block, (ad299.add ((x9_7).toNat * 5)).off + 3, none⟩ = some (.string ((rd_T46 t294 x9_7).f3)) ∧ w'.cell? ⟨(ad299.add ((x9_7).toNat * 5)).block, (ad299.add ((x9_7).toNat * 5)).off + 4, none⟩ = some (.int .i64 ((rd_T46 t294 x9_7).f4)) ∧ w'.cell? (ad300.add ((x9_7).toNat * 5)) = some (.int .i64 ((rd_T46 l1 x9_7).f0)) ∧ w'.cell? ⟨(ad300.add ((x9_7).toNat * 5)).block, (ad300.add ((x9_7).toNat * 5)).off + 1, none⟩ = some (.int .i64 ((rd_T46 l1 x9_7).f1)) ∧ w'.cell? ⟨(ad300.add ((x9_7).toNat * 5)).block, (ad300.add ((x9_7).toNat * 5)).off + 2, none⟩ = some (.int .i64 ((rd_T46 l1 x9_7).f2)) ∧ w'.cell? ⟨(ad300.add ((x9_7).toNat * 5)).block, (ad300.add ((x9_7).toNat * 5)).off + 3, none⟩ = some (.string ((rd_T46 l1 x9_7).f3)) ∧ w'.cell? ⟨(ad300.add ((x9_7).toNat * 5)).block, (ad300.add ((x9_7).toNat * 5)).off + 4, none⟩ = some (.int .i64 ((rd_T46 l1 x9_7).f4))) (ds := []) #[false, false, false, false, false, false, false, false, false, false, false, false, false, false, false, false, false, false, false, false, false, false, false, false, false, false, false, false, false, false, false, false, false, false, false, false, false, false, false, false, false, false, false, false, false] (by kernel_rfl) rfl rfl ⟨(blk_cell BK291.out 0).trans rfl, (blk_cell BK291.out 1).trans rfl, (blk_cell BK291.out 2).trans rfl, hx299_0, hx299_1, hx299_2, hx299_3, hx299_4, ((HB.out.cell (World.block_lt_of_cell? w _ hw300_0)).trans hw300_0), ((HB.out.cell (World.block_lt_of_cell? w _ hw300_1)).trans hw300_1), ((HB.out.cell (World.block_lt_of_cell? w _ hw300_2)).trans hw300_2), ((HB.out.cell (World.block_lt_of_cell? w _ hw300_3)).trans hw300_3), ((HB.out.cell (World.block_lt_of_cell? w _ hw300_4)).trans hw300_4), hx301_0, hx301_1, hx301_2, hx301_3, hx301_4, hx302_0, hx302_1, hx302_2, hx302_3, hx302_4, ((HB.out.cell (World.block_lt_of_cell? w _ hw303_0)).trans hw303_0), ((HB.out.cell (World.block_lt_of_cell? w _ hw303_1)).trans hw303_1), ((HB.out.cell (World.block_lt_of_cell? w _ hw303_2)).trans hw303_2), ((HB.out.cell (World.block_lt_of_cell? w _ hw303_3)).trans hw303_3), ((HB.out.cell (World.block_lt_of_cell? w _ hw303_4)).trans hw303_4)⟩ (fun hHeld => ?_); refine with_tabW signalbenchlaw21_SyncRoundTrips.tab13 signalbenchlaw21_SyncRoundTrips.bits13 (fun HT_ HW_ => ?_)
                       generalize wr.drew = w39 at HO_7 BK291 HB hx299_0 hx299_1 hx299_2 hx299_3 hx299_4 hx300_0 hx300_1 hx300_2 hx300_3 hx300_4 hx301_0 hx301_1 hx301_2 hx301_3 hx301_4 hx302_0 hx302_1 hx302_2 hx302_3 hx302_4 hx303_0 hx303_1 hx303_2 hx303_3 hx303_4 hHeld ⊢
                       refine pstep 0 (some 60) #[true, false, false, false, false, false, false, false, false, false, false, false, false, false, false, false, false, false, false, false, false, false, false, false, false, false, false, false, false, false, false, false, false, false, false, false, false, false, false, false, false, false, false, false, false] HT_.out ?_
                       refine pstep 1 (some 61) #[true, true, false, false, false, false, false, false, false, false, false, false, false, false, false, false, false, false, false, false, false, false, false, false, false, false, false, false, false, false, false, false, false, false, false, false, false, false, false, false, false, false, false, false, false] HT_.out ?_
                       refine pstep 2 (some 62) #[true, true, true, false, false, false, false, false, false, false, false, false, false, false, false, false, false, false, false, false, false, false, false, false, false, false, false, false, false, false, false, false, false, false, false, false, false, false, false, false, false, false, false, false, false] HT_.out ?_
                       refine pstep 3 (some 63) #[true, true, true, true, false, false, false, false, false, false, false, false, false, false, false, false, false, false, false, false, false, false, false, false, false, false, false, false, false, false, false, false, false, false, false, false, false, false, false, false, false, false, false, false, false] HT_.out ?_
                       refine pstep 6 (some 66) #[true, true, true, true, false, false, true, false, false, false, false, false, false, false, false, false, false, false, false, false, false, false, false, false, false, false, false, false, false, false, false, false, false, false, false, false, false, false, false, false, false, false, false, false, false] HT_.out ?_
                       refine pstep 9 (some 69) #[true, true, true, true, false, false, true, false, false, true, false, false, false, false, false, false, false, false, false, false, false, false, false, false, false, false, false, false, false, false, false, false, false, false, false, false, false, false, false, false, false, false, false, false, false] HT_.out ?_
                       refine pstep 10 (some 70) #[true, true, true, true, false, false, true, false, false, true, true, false, false, false, false, false, false, false, false, false, false, false, false, false, false, false, false, false, false, false, false, false, false, false, false, false, false, false, false, false, false, false, false, false, false] HT_.out ?_
                       refine pstep 11 (some 71) #[true, true, true, true, false, false, true, false, false, true, true, true, false, false, false, false, false, false, false, false, false, false, false, false, false, false, false, false, false, false, false, false, false, false, false, false, false, false, false, false, false, false, false, false, false] HT_.out ?_
                       refine pstep 12 (some 72) #[true, true, true, true, false, false, true, false, false, true, true, true, true, false, false, false, false, false, false, false, false, false, false, false, false, false, false, false, false, false, false, false, false, false, false, false, false, false, false, false, false, false, false, false, false] HT_.out ?_
                       refine take_ (i := 4) (N := some 64) (v := ?_) (a' := ?_) #[true, true, true, true, true, false, true, false, false, true, true, true, true, false, false, false, false, false, false, false, false, false, false, false, false, false, false, false, false, false, false, false, false, false, false, false, false, false, false, false, false, false, false, false, false] rfl rfl (take_ofW HT_.out HW_.out (by kernel_rfl)) (fun _ _ _ h => h) (Or.inl ⟨by rfl, ?_⟩) hHeld ?_ ?_
                       rotate_left
                       ·rintro w' ⟨s0, s1, s2, s3, s4, s5, s6, s7, s8, s9, s10, s11, s12, s13, s14, s15, s16, s17, s18, s19, s20, s21, s22, s23, s24, s25, s26, s27⟩
                        go_simp
                        with_reducible rfl
                       rotate_left
                       ·simp only [Act.put, nrm]
                        rfl
                       refine pstep 5 (some 65) #[true, true, true, true, true, true, true, false, false, true, true, true, true, false, false, false, false, false, false, false, false, false, false, false, false, false, false, false, false, false, false, false, false, false, false, false, false, false, false, false, false, false, false, false, false] HT_.out ?_
                       refine take_ (i := 7) (N := some 67) (v := ?_) (a' := ?_) #[true, true, true, true, true, true, true, true, false, true, true, true, true, false, false, false, false, false, false, false, false, false, false, false, false, false, false, false, false, false, false, false, false, false, false, false, false, false, false, false, false, false, false, false, false] rfl rfl (take_ofW HT_.out HW_.out (by kernel_rfl)) (fun _ _ _ h => h) (Or.inl ⟨by rfl, ?_⟩) hHeld ?_ ?_
                       rotate_left
                       ·rintro w' ⟨s0, s1, s2, s3, s4, s5, s6, s7, s8, s9, s10, s11, s12, s13, s14, s15, s16, s17, s18, s19, s20, s21, s22, s23, s24, s25, s26, s27⟩
                        go_simp
                        with_reducible rfl
                       rotate_left
                       ·simp only [Act.put, nrm]
                        rfl
                       refine pstep 8 (some 68) #[true, true, true, true, true, true, true, true, true, true, true, true, true, false, false, false, false, false, false, false, false, false, false, false, false, false, false, false, false, false, false, false, false, false, false, false, false, false, false, false, false, false, false, false, false] HT_.out ?_
                       refine take_ (i := 13) (N := some 73) (v := ?_) (a' := ?_) #[true, true, true, true, true, true, true, true, true, true, true, true, true, true, false, false, false, false, false, false, false, false, false, false, false, false, false, false, false, false, false, false, false, false, false, false, false, false, false, false, false, false, false, false, false] rfl rfl (take_ofW HT_.out HW_.out (by kernel_rfl)) (fun _ _ _ h => h) (Or.inl ⟨by rfl, ?_⟩) hHeld ?_ ?_
                       rotate_left
                       ·rintro w' ⟨s0, s1, s2, s3, s4, s5, s6, s7, s8, s9, s10, s11, s12, s13, s14, s15, s16, s17, s18, s19, s20, s21, s22, s23, s24, s25, s26, s27⟩
                        go_simp
                        with_reducible rfl
                       rotate_left
                       ·simp only [Act.put, nrm]
                        rfl
                       refine pstep 14 (some 74) #[true, true, true, true, true, true, true, true, true, true, true, true, true, true, true, false, false, false, false, false, false, false, false, false, false, false, false, false, false, false, false, false, false, false, false, false, false, false, false, false, false, false, false, false, false] HT_.out ?_
                       refine pstep 15 (some 75) #[true, true, true, true, true, true, true, true, true, true, true, true, true, true, true, true, false, false, false, false, false, false, false, false, false, false, false, false, false, false, false, false, false, false, false, false, false, false, false, false, false, false, false, false, false] HT_.out ?_
                       refine pstep 16 (some 76) #[true, true, true, true, true, true, true, true, true, true, true, true, true, true, true, true, true, false, false, false, false, false, false, false, false, false, false, false, false, false, false, false, false, false, false, false, false, false, false, false, false, false, false, false, false] HT_.out ?_
                       refine pstep 17 (some 77) #[true, true, true, true, true, true, true, true, true, true, true, true, true, true, true, true, true, true, false, false, false, false, false, false, false, false, false, false, false, false, false, false, false, false, false, false, false, false, false, false, false, false, false, false, false] HT_.out ?_
                       refine pstep 18 (some 78) #[true, true, true, true, true, true, true, true, true, true, true, true, true, true, true, true, true, true, true, false, false, false, false, false, false, false, false, false, false, false, false, false, false, false, false, false, false, false, false, false, false, false, false, false, false] HT_.out ?_
                       refine pstep 19 (some 79) #[true, true, true, true, true, true, true, true, true, true, true, true, true, true, true, true, true, true, true, true, false, false, false, false, false, false, false, false, false, false, false, false, false, false, false, false, false, false, false, false, false, false, false, false, false] HT_.out ?_
                       refine pstep 20 (some 80) #[true, true, true, true, true, true, true, true, true, true, true, true, true, true, true, true, true, true, true, true, true, false, false, false, false, false, false, false, false, false, false, false, false, false, false, false, false, false, false, false, false, false, false, false, false] HT_.out ?_
                       refine pstep 21 (some 81) #[true, true, true, true, true, true, true, true, true, true, true, true, true, true, true, true, true, true, true, true, true, true, false, false, false, false, false, false, false, false, false, false, false, false, false, false, false, false, false, false, false, false, false, false, false] HT_.out ?_
                       refine pstep 22 (some 82) #[true, true, true, true, true, true, true, true, true, true, true, true, true, true, true, true, true, true, true, true, true, true, true, false, false, false, false, false, false, false, false, false, false, false, false, false, false, false, false, false, false, false, false, false, false] HT_.out ?_
                       refine pstep 24 (some 84) #[true, true, true, true, true, true, true, true, true, true, true, true, true, true, true, true, true, true, true, true, true, true, true, false, true, false, false, false, false, false, false, false, false, false, false, false, false, false, false, false, false, false, false, false, false] HT_.out ?_
                       refine pstep 28 (some 88) #[true, true, true, true, true, true, true, true, true, true, true, true, true, true, true, true, true, true, true, true, true, true, true, false, true, false, false, false, true, false, false, false, false, false, false, false, false, false, false, false, false, false, false, false, false] HT_.out ?_
                       refine take_ (i := 23) (N := some 83) (v := ?_) (a' := ?_) #[true, true, true, true, true, true, true, true, true, true, true, true, true, true, true, true, true, true, true, true, true, true, true, true, true, false, false, false, true, false, false, false, false, false, false, false, false, false, false, false, false, false, false, false, false] rfl rfl (take_ofW HT_.out HW_.out (by kernel_rfl)) (fun _ _ _ h => h) (Or.inl ⟨by rfl, ?_⟩) hHeld ?_ ?_
                       rotate_left
                       ·rintro w' ⟨s0, s1, s2, s3, s4, s5, s6, s7, s8, s9, s10, s11, s12, s13, s14, s15, s16, s17, s18, s19, s20, s21, s22, s23, s24, s25, s26, s27⟩
                        go_simp
                        with_reducible rfl
                       rotate_left
                       ·simp only [Act.put, nrm]
                        rfl
                       refine take_ (i := 25) (N := some 85) (v := ?_) (a' := ?_) #[true, true, true, true, true, true, true, true, true, true, true, true, true, true, true, true, true, true, true, true, true, true, true, true, true, true, false, false, true, false, false, false, false, false, false, false, false, false, false, false, false, false, false, false, false] rfl rfl (take_ofW HT_.out HW_.out (by kernel_rfl)) (fun _ _ _ h => h) (Or.inl ⟨by rfl, ?_⟩) hHeld ?_ ?_
                       rotate_left
                       ·rintro w' ⟨s0, s1, s2, s3, s4, s5, s6, s7, s8, s9, s10, s11, s12, s13, s14, s15, s16, s17, s18, s19, s20, s21, s22, s23, s24, s25, s26, s27⟩
                        go_simp
                        with_reducible rfl
                       rotate_left
                       ·simp only [Act.put, nrm]
                        rfl
                       refine pstep 26 (some 86) #[true, true, true, true, true, true, true, true, true, true, true, true, true, true, true, true, true, true, true, true, true, true, true, true, true, true, true, false, true, false, false, false, false, false, false, false, false, false, false, false, false, false, false, false, false] HT_.out ?_
                       refine pstep 27 (some 87) #[true, true, true, true, true, true, true, true, true, true, true, true, true, true, true, true, true, true, true, true, true, true, true, true, true, true, true, true, true, false, false, false, false, false, false, false, false, false, false, false, false, false, false, false, false] HT_.out ?_
                       refine take_ (i := 29) (N := some 89) (v := ?_) (a' := ?_) #[true, true, true, true, true, true, true, true, true, true, true, true, true, true, true, true, true, true, true, true, true, true, true, true, true, true, true, true, true, true, false, false, false, false, false, false, false, false, false, false, false, false, false, false, false] rfl rfl (take_ofW HT_.out HW_.out (by kernel_rfl)) (fun _ _ _ h => h) (Or.inl ⟨by rfl, ?_⟩) hHeld ?_ ?_
                       rotate_left
                       ·rintro w' ⟨s0, s1, s2, s3, s4, s5, s6, s7, s8, s9, s10, s11, s12, s13, s14, s15, s16, s17, s18, s19, s20, s21, s22, s23, s24, s25, s26, s27⟩
                        go_simp
                        with_reducible rfl
                       rotate_left
                       ·simp only [Act.put, nrm]
                        rfl
                       refine pstep 30 (some 90) #[true, true, true, true, true, true, true, true, true, true, true, true, true, true, true, true, true, true, true, true, true, true, true, true, true, true, true, true, true, true, true, false, false, false, false, false, false, false, false, false, false, false, false, false, false] HT_.out ?_
                       refine pstep 31 (some 91) #[true, true, true, true, true, true, true, true, true, true, true, true, true, true, true, true, true, true, true, true, true, true, true, true, true, true, true, true, true, true, true, true, false, false, false, false, false, false, false, false, false, false, false, false, false] HT_.out ?_
                       refine pstep 32 (some 92) #[true, true, true, true, true, true, true, true, true, true, true, true, true, true, true, true, true, true, true, true, true, true, true, true, true, true, true, true, true, true, true, true, true, false, false, false, false, false, false, false, false, false, false, false, false] HT_.out ?_
                       refine pstep 33 (some 93) #[true, true, true, true, true, true, true, true, true, true, true, true, true, true, true, true, true, true, true, true, true, true, true, true, true, true, true, true, true, true, true, true, true, true, false, false, false, false, false, false, false, false, false, false, false] HT_.out ?_
                       refine pstep 34 (some 94) #[true, true, true, true, true, true, true, true, true, true, true, true, true, true, true, true, true, true, true, true, true, true, true, true, true, true, true, true, true, true, true, true, true, true, true, false, false, false, false, false, false, false, false, false, false] HT_.out ?_
                       refine pstep 35 (some 95) #[true, true, true, true, true, true, true, true, true, true, true, true, true, true, true, true, true, true, true, true, true, true, true, true, true, true, true, true, true, true, true, true, true, true, true, true, false, false, false, false, false, false, false, false, false] HT_.out ?_
                       refine pstep 36 (some 96) #[true, true, true, true, true, true, true, true, true, true, true, true, true, true, true, true, true, true, true, true, true, true, true, true, true, true, true, true, true, true, true, true, true, true, true, true, true, false, false, false, false, false, false, false, false] HT_.out ?_
                       refine pstep 38 (some 98) #[true, true, true, true, true, true, true, true, true, true, true, true, true, true, true, true, true, true, true, true, true, true, true, true, true, true, true, true, true, true, true, true, true, true, true, true, true, false, true, false, false, false, false, false, false] HT_.out ?_
                       refine pstep 39 (some 99) #[true, true, true, true, true, true, true, true, true, true, true, true, true, true, true, true, true, true, true, true, true, true, true, true, true, true, true, true, true, true, true, true, true, true, true, true, true, false, true, true, false, false, false, false, false] HT_.out ?_
                       refine pstep 40 (some 100) #[true, true, true, true, true, true, true, true, true, true, true, true, true, true, true, true, true, true, true, true, true, true, true, true, true, true, true, true, true, true, true, true, true, true, true, true, true, false, true, true, true, false, false, false, false] HT_.out ?_
                       refine pstep 41 (some 101) #[true, true, true, true, true, true, true, true, true, true, true, true, true, true, true, true, true, true, true, true, true, true, true, true, true, true, true, true, true, true, true, true, true, true, true, true, true, false, true, true, true, true, false, false, false] HT_.out ?_
                       refine take_ (i := 37) (N := some 97) (v := ?_) (a' := ?_) #[true, true, true, true, true, true, true, true, true, true, true, true, true, true, true, true, true, true, true, true, true, true, true, true, true, true, true, true, true, true, true, true, true, true, true, true, true, true, true, true, true, true, false, false, false] rfl rfl (take_ofW HT_.out HW_.out (by kernel_rfl)) (fun _ _ _ h => h) (Or.inl ⟨by rfl, ?_⟩) hHeld ?_ ?_
                       rotate_left
                       ·rintro w' ⟨s0, s1, s2, s3, s4, s5, s6, s7, s8, s9, s10, s11, s12, s13, s14, s15, s16, s17, s18, s19, s20, s21, s22, s23, s24, s25, s26, s27⟩
                        go_simp
                        with_reducible rfl
                       rotate_left
                       ·simp only [Act.put, nrm]
                        rfl
                       refine take_ (i := 42) (N := some 102) (v := ?_) (a' := ?_) #[true, true, true, true, true, true, true, true, true, true, true, true, true, true, true, true, true, true, true, true, true, true, true, true, true, true, true, true, true, true, true, true, true, true, true, true, true, true, true, true, true, true, true, false, false] rfl rfl (take_ofW HT_.out HW_.out (by kernel_rfl)) (fun _ _ _ h => h) (Or.inl ⟨by rfl, ?_⟩) hHeld ?_ ?_
                       rotate_left
                       ·rintro w' ⟨s0, s1, s2, s3, s4, s5, s6, s7, s8, s9, s10, s11, s12, s13, s14, s15, s16, s17, s18, s19, s20, s21, s22, s23, s24, s25, s26, s27⟩
                        go_simp
                        with_reducible rfl
                       rotate_left
                       ·simp only [Act.put, nrm]
                        rfl
                       refine pstep 43 (some 103) #[true, true, true, true, true, true, true, true, true, true, true, true, true, true, true, true, true, true, true, true, true, true, true, true, true, true, true, true, true, true, true, true, true, true, true, true, true, true, true, true, true, true, true, true, false] HT_.out ?_
                       refine pstep 44 (some 104) #[true, true, true, true, true, true, true, true, true, true, true, true, true, true, true, true, true, true, true, true, true, true, true, true, true, true, true, true, true, true, true, true, true, true, true, true, true, true, true, true, true, true, true, true, true] HT_.out ?_
                       refine done_ (done_of HT_.out (by kernel_rfl)) ?_
                       try go_wp2
                       go_roundg k7
                       case measure => have := HJ4.out; have := HJ8.out; have := HJ14.out; have := HJ17.out; have := HJ22.out; have := HJ27.out; have := HK7.out; omega
                       case rel => exact ⟨(wrap64 (x9_7 + 1)), (by first | rfl | (simp; done) | (simp [*]; done)), H', ⟨by have := HJ4.out; have := HJ8.out; have := HJ14.out; have := HJ17.out; have := HJ22.out; have := HJ27.out; have := HK7.out; omega⟩, ⟨by (with_reducible repeat (first | apply Kd.R_alloc | apply Kd.R_drewN | apply Kd.R_drew)); exact HO_7.out⟩, ⟨by (with_reducible repeat (first | refine blk_drewN ?_ _ | refine blk_drew ?_ | refine blk_alloc ?_ _)); exact BK291.out⟩, ⟨by repeat (first | (with_reducible first | exact HB.out | apply below_alloc | apply pw_below_drewN | apply below_drew1 | refine below_set ?_ GE291.out) | exact HB.out)⟩⟩
                      ·rw [if_neg c37] at H
                       have c37b0 : (((rd_T46 t294 x9_7).f0) == ((rd_T46 l1 x9_7).f0)) = false := beq_eq_false_iff_ne.mpr c37
                       have c37b1 : (((rd_T46 t294 x9_7).f0) != ((rd_T46 l1 x9_7).f0)) = true := bne_iff_ne.mpr c37
                       obtain rfl := Option.some.inj H
                       obtain ⟨Ao40, co40, eo40⟩ := Kd.R_slice HO_7.out
                       subst eo40
                       try go_wp2
                       have n0_ := Aside0.mk (Kd.R_drew HO_7.out)
                       have n1_ := Aside0.mk (blk_drew BK291.out)
                       have n2_ := Aside0.mk (below_drew1 HB.out)
                       clear HO_7
                       clear BK291
                       clear HB
                       have HO_7 := n0_
                       have BK291 := n1_
                       have HB := n2_
                       clear n0_ n1_ n2_
                       have p299 : 0 ≤ (x9_7 : Int) := of_decide_eq_true (by first | (with_reducible assumption) | assumption)
                       have q299 : x9_7 < (t294.length : Int) := of_decide_eq_true (by first | (with_reducible assumption) | assumption)
                       obtain ⟨ad299, e299, hx299_0, hx299_1, hx299_2, hx299_3, hx299_4⟩ := at_T46 (Kd.R_reads' HO_7.out).2.2 x9_7 p299 q299
                       cases e299
                       replace p299 := eq_true p299
                       replace q299 := eq_true q299
                       have p300 : 0 ≤ (x9_7 : Int) := of_decide_eq_true (by first | (with_reducible assumption) | assumption)
                       have q300 : x9_7 < (l1.length : Int) := of_decide_eq_true (by first | (with_reducible assumption) | assumption)
                       obtain ⟨ad300, e300, hx300_0, hx300_1, hx300_2, hx300_3, hx300_4⟩ := at_T46 HR1.out x9_7 p300 q300
                       have hw300_4 := hx300_4
                       have hw300_3 := hx300_3
                       have hw300_2 := hx300_2
                       have hw300_1 := hx300_1
                       have hw300_0 := hx300_0
                       cases e300
                       replace hx300_0 := (HB.out.cell (World.block_lt_of_cell? w _ hx300_0)).trans hx300_0
                       replace hx300_1 := (HB.out.cell (World.block_lt_of_cell? w _ hx300_1)).trans hx300_1
                       replace hx300_2 := (HB.out.cell (World.block_lt_of_cell? w _ hx300_2)).trans hx300_2
                       replace hx300_3 := (HB.out.cell (World.block_lt_of_cell? w _ hx300_3)).trans hx300_3
                       replace hx300_4 := (HB.out.cell (World.block_lt_of_cell? w _ hx300_4)).trans hx300_4
                       replace p300 := eq_true p300
                       replace q300 := eq_true q300
                       have p301 : 0 ≤ (x9_7 : Int) := of_decide_eq_true (by first | (with_reducible assumption) | assumption)
                       have q301 : x9_7 < (t294.length : Int) := of_decide_eq_true (by first | (with_reducible assumption) | assumption)
                       obtain ⟨ad301, e301, hx301_0, hx301_1, hx301_2, hx301_3, hx301_4⟩ := at_T46 (Kd.R_reads' HO_7.out).2.2 x9_7 p301 q301
                       obtain rfl : ad299 = ad301 := (by injection e301)
                       replace p301 := eq_true p301
                       replace q301 := eq_true q301
                       have p302 : 0 ≤ (x9_7 : Int) := of_decide_eq_true (by first | (with_reducible assumption) | assumption)
                       have q302 : x9_7 < (t294.length : Int) := of_decide_eq_true (by first | (with_reducible assumption) | assumption)
                       obtain ⟨ad302, e302, hx302_0, hx302_1, hx302_2, hx302_3, hx302_4⟩ := at_T46 (Kd.R_reads' HO_7.out).2.2 x9_7 p302 q302
                       obtain rfl : ad299 = ad302 := (by injection e302)
                       replace p302 := eq_true p302
                       replace q302 := eq_true q302
                       have p303 : 0 ≤ (x9_7 : Int) := of_decide_eq_true (by first | (with_reducible assumption) | assumption)
                       have q303 : x9_7 < (l1.length : Int) := of_decide_eq_true (by first | (with_reducible assumption) | assumption)
                       obtain ⟨ad303, e303, hx303_0, hx303_1, hx303_2, hx303_3, hx303_4⟩ := at_T46 HR1.out x9_7 p303 q303
                       have hw303_4 := hx303_4
                       have hw303_3 := hx303_3
                       have hw303_2 := hx303_2
                       have hw303_1 := hx303_1
                       have hw303_0 := hx303_0
                       obtain rfl : ad300 = ad303 := (by injection e303)
                       replace hx303_0 := (HB.out.cell (World.block_lt_of_cell? w _ hx303_0)).trans hx303_0
                       replace hx303_1 := (HB.out.cell (World.block_lt_of_cell? w _ hx303_1)).trans hx303_1
                       replace hx303_2 := (HB.out.cell (World.block_lt_of_cell? w _ hx303_2)).trans hx303_2
                       replace hx303_3 := (HB.out.cell (World.block_lt_of_cell? w _ hx303_3)).trans hx303_3
                       replace hx303_4 := (HB.out.cell (World.block_lt_of_cell? w _ hx303_4)).trans hx303_4
                       replace p303 := eq_true p303
                       replace q303 := eq_true q303
                       refine start_ (n := 45) (S := fun w' => w'.cell? ⟨gb291, 0, none⟩ = some (.string a0_0) ∧ w'.cell? ⟨gb291, 1, none⟩ = some (.int .i64 a0_1) ∧ w'.cell? ⟨gb291, 2, none⟩ = some (.bool a0_2) ∧ w'.cell? (ad299.add ((x9_7).toNat * 5)) = some (.int .i64 ((rd_T46 t294 x9_7).f0)) ∧ w'.cell? ⟨(ad299.add ((x9_7).toNat * 5)).block, (ad299.add ((x9_7).toNat * 5)).off + 1, none⟩ = some (.int .i64 ((rd_T46 t294 x9_7).f1)) ∧ w'.cell? ⟨(ad299.add ((x9_7).toNat * 5)).block, (ad299.add ((x9_7).toNat * 5)).off + 2, none⟩ = some (.int .i64 ((rd_T46 t294 x9_7).f2)) ∧ w'.cell? ⟨(ad299.add ((x9_7).toNat * 5)).block, (ad299.add ((x9_7).toNat * 5)).off + 3, none⟩ = some (.string ((rd_T46 t294 x9_7).f3)) ∧ w'.cell? ⟨(ad299.add ((x9_7).toNat * 5)).block, (ad299.add ((x9_7).toNat * 5)).off + 4, none⟩ = some (.int .i64 ((rd_T46 t294 x9_7).f4)) ∧ w'.cell? (ad300.add ((x9_7).toNat * 5)) = some (.int .i64 ((rd_T46 l1 x9_7).f0)) ∧ w'.cell? ⟨(ad300.add ((x9_7).toNat * 5)).block, (ad300.add ((x9_7).toNat * 5)).off + 1, none⟩ = some (.int .i64 ((rd_T46 l1 x9_7).f1)) ∧ w'.cell? ⟨(ad300.add ((x9_7).toNat * 5)).block, (ad300.add ((x9_7).toNat * 5)).off + 2, none⟩ = some (.int .i64 ((rd_T46 l1 x9_7).f2)) ∧ w'.cell? ⟨(ad300.add ((x9_7).toNat * 5)).block, (ad300.add ((x9_7).toNat * 5)).off + 3, none⟩ = some (.string ((rd_T46 l1 x9_7).f3)) ∧ w'.cell? ⟨(ad300.add ((x9_7).toNat * 5)).block, (ad300.add ((x9_7).toNat * 5)).off + 4, none⟩ = some (.int .i64 ((rd_T46 l1 x9_7).f4)) ∧ w'.cell? (ad299.add ((x9_7).toNat * 5)) = some (.int .i64 ((rd_T46 t294 x9_7).f0)) ∧ w'.cell? ⟨(ad299.add ((x9_7).toNat * 5)).block, (ad299.add ((x9_7).toNat * 5)).off + 1, none⟩ = some (.int .i64 ((rd_T46 t294 x9_7).f1)) ∧ w'.cell? ⟨(ad299.add ((x9_7).toNat * 5)).block, (ad299.add ((x9_7).toNat * 5)).off + 2, none⟩ = some (.int .i64 ((rd_T46 t294 x9_7).f2)) ∧ w'.cell? ⟨(ad299.add ((x9_7).toNat * 5)).block, (ad299.add ((x9_7).toNat * 5)).off + 3, none⟩ = some (.string ((rd_T46 t294 x9_7).f3)) ∧ w'.cell? ⟨(ad299.add ((x9_7).toNat * 5)).block, (ad299.add ((x9_7).toNat * 5)).off + 4, none⟩ = some (.int .i64 ((rd_T46 t294 x9_7).f4)) ∧ w'.cell? (ad299.add ((x9_7).toNat * 5)) = some (.int .i64 ((rd_T46 t294 x9_7).f0)) ∧ w'.cell? ⟨(ad299.add ((x9_7).toNat * 5)).block, (ad299.add ((x9_7).toNat * 5)).off + 1, none⟩ = some (.int .i64 ((rd_T46 t294 x9_7).f1)) ∧ w'.cell? ⟨(ad299.add ((x9_7).toNat * 5)).block, (ad299.add ((x9_7).toNat * 5)).off + 2, none⟩ = some (.int .i64 ((rd_T46 t294 x9_7).f2)) ∧ w'.cell? ⟨(ad299.add ((x9_7).toNat * 5)).block, (ad299.add ((x9_7).toNat * 5)).off + 3, none⟩ = some (.string ((rd_T46 t294 x9_7).f3)) ∧ w'.cell? ⟨(ad299.add ((x9_7).toNat * 5)).block, (ad299.add ((x9_7).toNat * 5)).off + 4, none⟩ = some (.int .i64 ((rd_T46 t294 x9_7).f4)) ∧ w'.cell? (ad300.add ((x9_7).toNat * 5)) = some (.int .i64 ((rd_T46 l1 x9_7).f0)) ∧ w'.cell? ⟨(ad300.add ((x9_7).toNat * 5)).block, (ad300.add ((x9_7).toNat * 5)).off + 1, none⟩ = some (.int .i64 ((rd_T46 l1 x9_7).f1)) ∧ w'.cell? ⟨(ad300.add ((x9_7).toNat * 5)).block, (ad300.add ((x9_7).toNat * 5)).off + 2, none⟩ = some (.int .i64 ((rd_T46 l1 x9_7).f2)) ∧ w'.cell? ⟨(ad300.add ((x9_7).toNat * 5)).block, (ad300.add ((x9_7).toNat * 5)).off + 3, none⟩ = some (.string ((rd_T46 l1 x9_7).f3)) ∧ w'.cell? ⟨(ad300.add ((x9_7).toNat * 5)).block, (ad300.add ((x9_7).toNat * 5)).off + 4, none⟩ = some (.int .i64 ((rd_T46 l1 x9_7).f4))) (ds := []) #[false, false, false, false, false, false, false, false, false, false, false, false, false, false, false, false, false, false, false, false, false, false, false, false, false, false, false, false, false, false, false, false, false, false, false, false, false, false, false, false, false, false, false, false, false] (by kernel_rfl) rfl rfl ⟨(blk_cell BK291.out 0).trans rfl, (blk_cell BK291.out 1).trans rfl, (blk_cell BK291.out 2).trans rfl, hx299_0, hx299_1, hx299_2, hx299_3, hx299_4, ((HB.out.cell (World.block_lt_of_cell? w _ hw300_0)).trans hw300_0), ((HB.out.cell (World.block_lt_of_cell? w _ hw300_1)).trans hw300_1), ((HB.out.cell (World.block_lt_of_cell? w _ hw300_2)).trans hw300_2), ((HB.out.cell (World.block_lt_of_cell? w _ hw300_3)).trans hw300_3), ((HB.out.cell (World.block_lt_of_cell? w _ hw300_4)).trans hw300_4), hx301_0, hx301_1, hx301_2, hx301_3, hx301_4, hx302_0, hx302_1, hx302_2, hx302_3, hx302_4, ((HB.out.cell (World.block_lt_of_cell? w _ hw303_0)).trans hw303_0), ((HB.out.cell (World.block_lt_of_cell? w _ hw303_1)).trans hw303_1), ((HB.out.cell (World.block_lt_of_cell? w _ hw303_2)).trans hw303_2), ((HB.out.cell (World.block_lt_of_cell? w _ hw303_3)).trans hw303_3), ((HB.out.cell (World.block_lt_of_cell? w _ hw303_4)).trans hw303_4)⟩ (fun hHeld => ?_); refine with_tabW signalbenchlaw21_SyncRoundTrips.tab13 signalbenchlaw21_SyncRoundTrips.bits13 (fun HT_ HW_ => ?_)
                       generalize wr.drew = w41 at HO_7 BK291 HB hx299_0 hx299_1 hx299_2 hx299_3 hx299_4 hx300_0 hx300_1 hx300_2 hx300_3 hx300_4 hx301_0 hx301_1 hx301_2 hx301_3 hx301_4 hx302_0 hx302_1 hx302_2 hx302_3 hx302_4 hx303_0 hx303_1 hx303_2 hx303_3 hx303_4 hHeld ⊢
                       refine pstep 0 (some 60) #[true, false, false, false, false, false, false, false, false, false, false, false, false, false, false, false, false, false, false, false, false, false, false, false, false, false, false, false, false, false, false, false, false, false, false, false, false, false, false, false, false, false, false, false, false] HT_.out ?_
                       refine pstep 1 (some 61) #[true, true, false, false, false, false, false, false, false, false, false, false, false, false, false, false, false, false, false, false, false, false, false, false, false, false, false, false, false, false, false, false, false, false, false, false, false, false, false, false, false, false, false, false, false] HT_.out ?_
                       refine pstep 2 (some 62) #[true, true, true, false, false, false, false, false, false, false, false, false, false, false, false, false, false, false, false, false, false, false, false, false, false, false, false, false, false, false, false, false, false, false, false, false, false, false, false, false, false, false, false, false, false] HT_.out ?_
                       refine pstep 3 (some 63) #[true, true, true, true, false, false, false, false, false, false, false, false, false, false, false, false, false, false, false, false, false, false, false, false, false, false, false, false, false, false, false, false, false, false, false, false, false, false, false, false, false, false, false, false, false] HT_.out ?_
                       refine pstep 6 (some 66) #[true, true, true, true, false, false, true, false, false, false, false, false, false, false, false, false, false, false, false, false, false, false, false, false, false, false, false, false, false, false, false, false, false, false, false, false, false, false, false, false, false, false, false, false, false] HT_.out ?_
                       refine pstep 9 (some 69) #[true, true, true, true, false, false, true, false, false, true, false, false, false, false, false, false, false, false, false, false, false, false, false, false, false, false, false, false, false, false, false, false, false, false, false, false, false, false, false, false, false, false, false, false, false] HT_.out ?_
                       refine pstep 10 (some 70) #[true, true, true, true, false, false, true, false, false, true, true, false, false, false, false, false, false, false, false, false, false, false, false, false, false, false, false, false, false, false, false, false, false, false, false, false, false, false, false, false, false, false, false, false, false] HT_.out ?_
                       refine pstep 11 (some 71) #[true, true, true, true, false, false, true, false, false, true, true, true, false, false, false, false, false, false, false, false, false, false, false, false, false, false, false, false, false, false, false, false, false, false, false, false, false, false, false, false, false, false, false, false, false] HT_.out ?_
                       refine pstep 12 (some 72) #[true, true, true, true, false, false, true, false, false, true, true, true, true, false, false, false, false, false, false, false, false, false, false, false, false, false, false, false, false, false, false, false, false, false, false, false, false, false, false, false, false, false, false, false, false] HT_.out ?_
                       refine take_ (i := 4) (N := some 64) (v := ?_) (a' := ?_) #[true, true, true, true, true, false, true, false, false, true, true, true, true, false, false, false, false, false, false, false, false, false, false, false, false, false, false, false, false, false, false, false, false, false, false, false, false, false, false, false, false, false, false, false, false] rfl rfl (take_ofW HT_.out HW_.out (by kernel_rfl)) (fun _ _ _ h => h) (Or.inl ⟨by rfl, ?_⟩) hHeld ?_ ?_
                       rotate_left
                       ·rintro w' ⟨s0, s1, s2, s3, s4, s5, s6, s7, s8, s9, s10, s11, s12, s13, s14, s15, s16, s17, s18, s19, s20, s21, s22, s23, s24, s25, s26, s27⟩
                        go_simp
                        with_reducible rfl
                       rotate_left
                       ·simp only [Act.put, nrm]
                        rfl
                       refine pstep 5 (some 65) #[true, true, true, true, true, true, true, false, false, true, true, true, true, false, false, false, false, false, false, false, false, false, false, false, false, false, false, false, false, false, false, false, false, false, false, false, false, false, false, false, false, false, false, false, false] HT_.out ?_
                       refine take_ (i := 7) (N := some 67) (v := ?_) (a' := ?_) #[true, true, true, true, true, true, true, true, false, true, true, true, true, false, false, false, false, false, false, false, false, false, false, false, false, false, false, false, false, false, false, false, false, false, false, false, false, false, false, false, false, false, false, false, false] rfl rfl (take_ofW HT_.out HW_.out (by kernel_rfl)) (fun _ _ _ h => h) (Or.inl ⟨by rfl, ?_⟩) hHeld ?_ ?_
                       rotate_left
                       ·rintro w' ⟨s0, s1, s2, s3, s4, s5, s6, s7, s8, s9, s10, s11, s12, s13, s14, s15, s16, s17, s18, s19, s20, s21, s22, s23, s24, s25, s26, s27⟩
                        go_simp
                        with_reducible rfl
                       rotate_left
                       ·simp only [Act.put, nrm]
                        rfl
                       refine pstep 8 (some 68) #[true, true, true, true, true, true, true, true, true, true, true, true, true, false, false, false, false, false, false, false, false, false, false, false, false, false, false, false, false, false, false, false, false, false, false, false, false, false, false, false, false, false, false, false, false] HT_.out ?_
                       refine take_ (i := 13) (N := some 73) (v := ?_) (a' := ?_) #[true, true, true, true, true, true, true, true, true, true, true, true, true, true, false, false, false, false, false, false, false, false, false, false, false, false, false, false, false, false, false, false, false, false, false, false, false, false, false, false, false, false, false, false, false] rfl rfl (take_ofW HT_.out HW_.out (by kernel_rfl)) (fun _ _ _ h => h) (Or.inl ⟨by rfl, ?_⟩) hHeld ?_ ?_
                       rotate_left
                       ·rintro w' ⟨s0, s1, s2, s3, s4, s5, s6, s7, s8, s9, s10, s11, s12, s13, s14, s15, s16, s17, s18, s19, s20, s21, s22, s23, s24, s25, s26, s27⟩
                        go_simp
                        with_reducible rfl
                       rotate_left
                       ·simp only [Act.put, nrm]
                        rfl
                       refine pstep 14 (some 74) #[true, true, true, true, true, true, true, true, true, true, true, true, true, true, true, false, false, false, false, false, false, false, false, false, false, false, false, false, false, false, false, false, false, false, false, false, false, false, false, false, false, false, false, false, false] HT_.out ?_
                       refine pstep 15 (some 75) #[true, true, true, true, true, true, true, true, true, true, true, true, true, true, true, true, false, false, false, false, false, false, false, false, false, false, false, false, false, false, false, false, false, false, false, false, false, false, false, false, false, false, false, false, false] HT_.out ?_
                       refine pstep 16 (some 76) #[true, true, true, true, true, true, true, true, true, true, true, true, true, true, true, true, true, false, false, false, false, false, false, false, false, false, false, false, false, false, false, false, false, false, false, false, false, false, false, false, false, false, false, false, false] HT_.out ?_
                       refine pstep 17 (some 77) #[true, true, true, true, true, true, true, true, true, true, true, true, true, true, true, true, true, true, false, false, false, false, false, false, false, false, false, false, false, false, false, false, false, false, false, false, false, false, false, false, false, false, false, false, false] HT_.out ?_
                       refine pstep 18 (some 78) #[true, true, true, true, true, true, true, true, true, true, true, true, true, true, true, true, true, true, true, false, false, false, false, false, false, false, false, false, false, false, false, false, false, false, false, false, false, false, false, false, false, false, false, false, false] HT_.out ?_
                       refine pstep 19 (some 79) #[true, true, true, true, true, true, true, true, true, true, true, true, true, true, true, true, true, true, true, true, false, false, false, false, false, false, false, false, false, false, false, false, false, false, false, false, false, false, false, false, false, false, false, false, false] HT_.out ?_
                       refine pstep 20 (some 80) #[true, true, true, true, true, true, true, true, true, true, true, true, true, true, true, true, true, true, true, true, true, false, false, false, false, false, false, false, false, false, false, false, false, false, false, false, false, false, false, false, false, false, false, false, false] HT_.out ?_
                       refine pstep 21 (some 81) #[true, true, true, true, true, true, true, true, true, true, true, true, true, true, true, true, true, true, true, true, true, true, false, false, false, false, false, false, false, false, false, false, false, false, false, false, false, false, false, false, false, false, false, false, false] HT_.out ?_
                       refine pstep 22 (some 82) #[true, true, true, true, true, true, true, true, true, true, true, true, true, true, true, true, true, true, true, true, true, true, true, false, false, false, false, false, false, false, false, false, false, false, false, false, false, false, false, false, false, false, false, false, false] HT_.out ?_
                       refine pstep 24 (some 84) #[true, true, true, true, true, true, true, true, true, true, true, true, true, true, true, true, true, true, true, true, true, true, true, false, true, false, false, false, false, false, false, false, false, false, false, false, false, false, false, false, false, false, false, false, false] HT_.out ?_
                       refine pstep 28 (some 88) #[true, true, true, true, true, true, true, true, true, true, true, true, true, true, true, true, true, true, true, true, true, true, true, false, true, false, false, false, true, false, false, false, false, false, false, false, false, false, false, false, false, false, false, false, false] HT_.out ?_
                       refine take_ (i := 23) (N := some 83) (v := ?_) (a' := ?_) #[true, true, true, true, true, true, true, true, true, true, true, true, true, true, true, true, true, true, true, true, true, true, true, true, true, false, false, false, true, false, false, false, false, false, false, false, false, false, false, false, false, false, false, false, false] rfl rfl (take_ofW HT_.out HW_.out (by kernel_rfl)) (fun _ _ _ h => h) (Or.inl ⟨by rfl, ?_⟩) hHeld ?_ ?_
                       rotate_left
                       ·rintro w' ⟨s0, s1, s2, s3, s4, s5, s6, s7, s8, s9, s10, s11, s12, s13, s14, s15, s16, s17, s18, s19, s20, s21, s22, s23, s24, s25, s26, s27⟩
                        go_simp
                        with_reducible rfl
                       rotate_left
                       ·simp only [Act.put, nrm]
                        rfl
                       refine take_ (i := 25) (N := some 85) (v := ?_) (a' := ?_) #[true, true, true, true, true, true, true, true, true, true, true, true, true, true, true, true, true, true, true, true, true, true, true, true, true, true, false, false, true, false, false, false, false, false, false, false, false, false, false, false, false, false, false, false, false] rfl rfl (take_ofW HT_.out HW_.out (by kernel_rfl)) (fun _ _ _ h => h) (Or.inl ⟨by rfl, ?_⟩) hHeld ?_ ?_
                       rotate_left
                       ·rintro w' ⟨s0, s1, s2, s3, s4, s5, s6, s7, s8, s9, s10, s11, s12, s13, s14, s15, s16, s17, s18, s19, s20, s21, s22, s23, s24, s25, s26, s27⟩
                        go_simp
                        with_reducible rfl
                       rotate_left
                       ·simp only [Act.put, nrm]
                        rfl
                       refine pstep 26 (some 86) #[true, true, true, true, true, true, true, true, true, true, true, true, true, true, true, true, true, true, true, true, true, true, true, true, true, true, true, false, true, false, false, false, false, false, false, false, false, false, false, false, false, false, false, false, false] HT_.out ?_
                       refine pstep 27 (some 87) #[true, true, true, true, true, true, true, true, true, true, true, true, true, true, true, true, true, true, true, true, true, true, true, true, true, true, true, true, true, false, false, false, false, false, false, false, false, false, false, false, false, false, false, false, false] HT_.out ?_
                       refine take_ (i := 29) (N := some 89) (v := ?_) (a' := ?_) #[true, true, true, true, true, true, true, true, true, true, true, true, true, true, true, true, true, true, true, true, true, true, true, true, true, true, true, true, true, true, false, false, false, false, false, false, false, false, false, false, false, false, false, false, false] rfl rfl (take_ofW HT_.out HW_.out (by kernel_rfl)) (fun _ _ _ h => h) (Or.inl ⟨by rfl, ?_⟩) hHeld ?_ ?_
                       rotate_left
                       ·rintro w' ⟨s0, s1, s2, s3, s4, s5, s6, s7, s8, s9, s10, s11, s12, s13, s14, s15, s16, s17, s18, s19, s20, s21, s22, s23, s24, s25, s26, s27⟩
                        go_simp
                        with_reducible rfl
                       rotate_left
                       ·simp only [Act.put, nrm]
                        rfl
                       refine pstep 30 (some 90) #[true, true, true, true, true, true, true, true, true, true, true, true, true, true, true, true, true, true, true, true, true, true, true, true, true, true, true, true, true, true, true, false, false, false, false, false, false, false, false, false, false, false, false, false, false] HT_.out ?_
                       refine pstep 31 (some 91) #[true, true, true, true, true, true, true, true, true, true, true, true, true, true, true, true, true, true, true, true, true, true, true, true, true, true, true, true, true, true, true, true, false, false, false, false, false, false, false, false, false, false, false, false, false] HT_.out ?_
                       refine pstep 32 (some 92) #[true, true, true, true, true, true, true, true, true, true, true, true, true, true, true, true, true, true, true, true, true, true, true, true, true, true, true, true, true, true, true, true, true, false, false, false, false, false, false, false, false, false, false, false, false] HT_.out ?_
                       refine pstep 33 (some 93) #[true, true, true, true, true, true, true, true, true, true, true, true, true, true, true, true, true, true, true, true, true, true, true, true, true, true, true, true, true, true, true, true, true, true, false, false, false, false, false, false, false, false, false, false, false] HT_.out ?_
                       refine pstep 34 (some 94) #[true, true, true, true, true, true, true, true, true, true, true, true, true, true, true, true, true, true, true, true, true, true, true, true, true, true, true, true, true, true, true, true, true, true, true, false, false, false, false, false, false, false, false, false, false] HT_.out ?_
                       refine pstep 35 (some 95) #[true, true, true, true, true, true, true, true, true, true, true, true, true, true, true, true, true, true, true, true, true, true, true, true, true, true, true, true, true, true, true, true, true, true, true, true, false, false, false, false, false, false, false, false, false] HT_.out ?_
                       refine pstep 36 (some 96) #[true, true, true, true, true, true, true, true, true, true, true, true, true, true, true, true, true, true, true, true, true, true, true, true, true, true, true, true, true, true, true, true, true, true, true, true, true, false, false, false, false, false, false, false, false] HT_.out ?_
                       refine pstep 38 (some 98) #[true, true, true, true, true, true, true, true, true, true, true, true, true, true, true, true, true, true, true, true, true, true, true, true, true, true, true, true, true, true, true, true, true, true, true, true, true, false, true, false, false, false, false, false, false] HT_.out ?_
                       refine pstep 39 (some 99) #[true, true, true, true, true, true, true, true, true, true, true, true, true, true, true, true, true, true, true, true, true, true, true, true, true, true, true, true, true, true, true, true, true, true, true, true, true, false, true, true, false, false, false, false, false] HT_.out ?_
                       refine pstep 40 (some 100) #[true, true, true, true, true, true, true, true, true, true, true, true, true, true, true, true, true, true, true, true, true, true, true, true, true, true, true, true, true, true, true, true, true, true, true, true, true, false, true, true, true, false, false, false, false] HT_.out ?_
                       refine pstep 41 (some 101) #[true, true, true, true, true, true, true, true, true, true, true, true, true, true, true, true, true, true, true, true, true, true, true, true, true, true, true, true, true, true, true, true, true, true, true, true, true, false, true, true, true, true, false, false, false] HT_.out ?_
                       refine take_ (i := 37) (N := some 97) (v := ?_) (a' := ?_) #[true, true, true, true, true, true, true, true, true, true, true, true, true, true, true, true, true, true, true, true, true, true, true, true, true, true, true, true, true, true, true, true, true, true, true, true, true, true, true, true, true, true, false, false, false] rfl rfl (take_ofW HT_.out HW_.out (by kernel_rfl)) (fun _ _ _ h => h) (Or.inl ⟨by rfl, ?_⟩) hHeld ?_ ?_
                       rotate_left
                       ·rintro w' ⟨s0, s1, s2, s3, s4, s5, s6, s7, s8, s9, s10, s11, s12, s13, s14, s15, s16, s17, s18, s19, s20, s21, s22, s23, s24, s25, s26, s27⟩
                        go_simp
                        with_reducible rfl
                       rotate_left
                       ·simp only [Act.put, nrm]
                        rfl
                       refine take_ (i := 42) (N := some 102) (v := ?_) (a' := ?_) #[true, true, true, true, true, true, true, true, true, true, true, true, true, true, true, true, true, true, true, true, true, true, true, true, true, true, true, true, true, true, true, true, true, true, true, true, true, true, true, true, true, true, true, false, false] rfl rfl (take_ofW HT_.out HW_.out (by kernel_rfl)) (fun _ _ _ h => h) (Or.inl ⟨by rfl, ?_⟩) hHeld ?_ ?_
                       rotate_left
                       ·rintro w' ⟨s0, s1, s2, s3, s4, s5, s6, s7, s8, s9, s10, s11, s12, s13, s14, s15, s16, s17, s18, s19, s20, s21, s22, s23, s24, s25, s26, s27⟩
                        go_simp
                        with_reducible rfl
                       rotate_left
                       ·simp only [Act.put, nrm]
                        rfl
                       refine pstep 43 (some 103) #[true, true, true, true, true, true, true, true, true, true, true, true, true, true, true, true, true, true, true, true, true, true, true, true, true, true, true, true, true, true, true, true, true, true, true, true, true, true, true, true, true, true, true, true, false] HT_.out ?_
                       refine pstep 44 (some 104) #[true, true, true, true, true, true, true, true, true, true, true, true, true, true, true, true, true, true, true, true, true, true, true, true, true, true, true, true, true, true, true, true, true, true, true, true, true, true, true, true, true, true, true, true, true] HT_.out ?_
                       refine done_ (done_of HT_.out (by kernel_rfl)) ?_
                       try go_wp2
                       go_ret
                       exact ⟨by first | rfl | (simp [errW_none, errW_some] <;> rfl) | (simp [*, errW_none, errW_some] <;> rfl), by repeat (first | (with_reducible first | exact HB.out | apply below_alloc | apply pw_below_drewN | apply below_drew1 | refine below_set ?_ GE291.out) | exact HB.out)⟩
                     ·rw [if_neg c36] at H
                      have c36b0 : ((((rd_T46 t294 x9_7).f3).extract 0 ((a0_0.size : Int) : Int).toNat).toList == a0_0.toList) = false := beq_eq_false_iff_ne.mpr c36
                      have c36z0 := c36b0; simp only [Int.toNat_natCast] at c36z0
                      have c36b1 : ((((rd_T46 t294 x9_7).f3).extract 0 ((a0_0.size : Int) : Int).toNat).toList != a0_0.toList) = true := bne_iff_ne.mpr c36
                      have c36z1 := c36b1; simp only [Int.toNat_natCast] at c36z1
                      obtain rfl := Option.some.inj H
                      obtain ⟨Ao42, co42, eo42⟩ := Kd.R_slice HO_7.out
                      subst eo42
                      try go_wp2
                      have n0_ := Aside0.mk (Kd.R_drew HO_7.out)
                      have n1_ := Aside0.mk (blk_drew BK291.out)
                      have n2_ := Aside0.mk (below_drew1 HB.out)
                      clear HO_7
                      clear BK291
                      clear HB
                      have HO_7 := n0_
                      have BK291 := n1_
                      have HB := n2_
                      clear n0_ n1_ n2_
                      have p299 : 0 ≤ (x9_7 : Int) := of_decide_eq_true (by first | (with_reducible assumption) | assumption)
                      have q299 : x9_7 < (t294.length : Int) := of_decide_eq_true (by first | (with_reducible assumption) | assumption)
                      obtain ⟨ad299, e299, hx299_0, hx299_1, hx299_2, hx299_3, hx299_4⟩ := at_T46 (Kd.R_reads' HO_7.out).2.2 x9_7 p299 q299
                      cases e299
                      replace p299 := eq_true p299
                      replace q299 := eq_true q299
                      have p300 : 0 ≤ (x9_7 : Int) := of_decide_eq_true (by first | (with_reducible assumption) | assumption)
                      have q300 : x9_7 < (l1.length : Int) := of_decide_eq_true (by first | (with_reducible assumption) | assumption)
                      obtain ⟨ad300, e300, hx300_0, hx300_1, hx300_2, hx300_3, hx300_4⟩ := at_T46 HR1.out x9_7 p300 q300
                      have hw300_4 := hx300_4
                      have hw300_3 := hx300_3
                      have hw300_2 := hx300_2
                      have hw300_1 := hx300_1
                      have hw300_0 := hx300_0
                      cases e300
                      replace hx300_0 := (HB.out.cell (World.block_lt_of_cell? w _ hx300_0)).trans hx300_0
                      replace hx300_1 := (HB.out.cell (World.block_lt_of_cell? w _ hx300_1)).trans hx300_1
                      replace hx300_2 := (HB.out.cell (World.block_lt_of_cell? w _ hx300_2)).trans hx300_2
                      replace hx300_3 := (HB.out.cell (World.block_lt_of_cell? w _ hx300_3)).trans hx300_3
                      replace hx300_4 := (HB.out.cell (World.block_lt_of_cell? w _ hx300_4)).trans hx300_4
                      replace p300 := eq_true p300
                      replace q300 := eq_true q300
                      have p301 : 0 ≤ (x9_7 : Int) := of_decide_eq_true (by first | (with_reducible assumption) | assumption)
                      have q301 : x9_7 < (t294.length : Int) := of_decide_eq_true (by first | (with_reducible assumption) | assumption)
                      obtain ⟨ad301, e301, hx301_0, hx301_1, hx301_2, hx301_3, hx301_4⟩ := at_T46 (Kd.R_reads' HO_7.out).2.2 x9_7 p301 q301
                      obtain rfl : ad299 = ad301 := (by injection e301)
                      replace p301 := eq_true p301
                      replace q301 := eq_true q301
                      refine start_ (n := 45) (S := fun w' => w'.cell? ⟨gb291, 0, none⟩ = some (.string a0_0) ∧ w'.cell? ⟨gb291, 1, none⟩ = some (.int .i64 a0_1) ∧ w'.cell? ⟨gb291, 2, none⟩ = some (.bool a0_2) ∧ w'.cell? (ad299.add ((x9_7).toNat * 5)) = some (.int .i64 ((rd_T46 t294 x9_7).f0)) ∧ w'.cell? ⟨(ad299.add ((x9_7).toNat * 5)).block, (ad299.add ((x9_7).toNat * 5)).off + 1, none⟩ = some (.int .i64 ((rd_T46 t294 x9_7).f1)) ∧ w'.cell? ⟨(ad299.add ((x9_7).toNat * 5)).block, (ad299.add ((x9_7).toNat * 5)).off + 2, none⟩ = some (.int .i64 ((rd_T46 t294 x9_7).f2)) ∧ w'.cell? ⟨(ad299.add ((x9_7).toNat * 5)).block, (ad299.add ((x9_7).toNat * 5)).off + 3, none⟩ = some (.string ((rd_T46 t294 x9_7).f3)) ∧ w'.cell? ⟨(ad299.add ((x9_7).toNat * 5)).block, (ad299.add ((x9_7).toNat * 5)).off + 4, none⟩ = some (.int .i64 ((rd_T46 t294 x9_7).f4)) ∧ w'.cell? (ad300.add ((x9_7).toNat * 5)) = some (.int .i64 ((rd_T46 l1 x9_7).f0)) ∧ w'.cell? ⟨(ad300.add ((x9_7).toNat * 5)).block, (ad300.add ((x9_7).toNat * 5)).off + 1, none⟩ = some (.int .i64 ((rd_T46 l1 x9_7).f1)) ∧ w'.cell? ⟨(ad300.add ((x9_7).toNat * 5)).block, (ad300.add ((x9_7).toNat * 5)).off + 2, none⟩ = some (.int .i64 ((rd_T46 l1 x9_7).f2)) ∧ w'.cell? ⟨(ad300.add ((x9_7).toNat * 5)).block, (ad300.add ((x9_7).toNat * 5)).off + 3, none⟩ = some (.string ((rd_T46 l1 x9_7).f3)) ∧ w'.cell? ⟨(ad300.add ((x9_7).toNat * 5)).block, (ad300.add ((x9_7).toNat * 5)).off + 4, none⟩ = some (.int .i64 ((rd_T46 l1 x9_7).f4)) ∧ w'.cell? (ad299.add ((x9_7).toNat * 5)) = some (.int .i64 ((rd_T46 t294 x9_7).f0)) ∧ w'.cell? ⟨(ad299.add ((x9_7).toNat * 5)).block, (ad299.add ((x9_7).toNat * 5)).off + 1, none⟩ = some (.int .i64 ((rd_T46 t294 x9_7).f1)) ∧ w'.cell? ⟨(ad299.add ((x9_7).toNat * 5)).block, (ad299.add ((x9_7).toNat * 5)).off + 2, none⟩ = some (.int .i64 ((rd_T46 t294 x9_7).f2)) ∧ w'.cell? ⟨(ad299.add ((x9_7).toNat * 5)).block, (ad299.add ((x9_7).toNat * 5)).off + 3, none⟩ = some (.string ((rd_T46 t294 x9_7).f3)) ∧ w'.cell? ⟨(ad299.add ((x9_7).toNat * 5)).block, (ad299.add ((x9_7).toNat * 5)).off + 4, none⟩ = some (.int .i64 ((rd_T46 t294 x9_7).f4))) (ds := []) #[false, false, false, false, false, false, false, false, false, false, false, false, false, false, false, false, false, false, false, false, false, false, false, false, false, false, false, false, false, false, false, false, false, false, false, false, false, false, false, false, false, false, false, false, false] (by kernel_rfl) rfl rfl ⟨(blk_cell BK291.out 0).trans rfl, (blk_cell BK291.out 1).trans rfl, (blk_cell BK291.out 2).trans rfl, hx299_0, hx299_1, hx299_2, hx299_3, hx299_4, ((HB.out.cell (World.block_lt_of_cell? w _ hw300_0)).trans hw300_0), ((HB.out.cell (World.block_lt_of_cell? w _ hw300_1)).trans hw300_1), ((HB.out.cell (World.block_lt_of_cell? w _ hw300_2)).trans hw300_2), ((HB.out.cell (World.block_lt_of_cell? w _ hw300_3)).trans hw300_3), ((HB.out.cell (World.block_lt_of_cell? w _ hw300_4)).trans hw300_4), hx301_0, hx301_1, hx301_2, hx301_3, hx301_4⟩ (fun hHeld => ?_); refine with_tabW signalbenchlaw21_SyncRoundTrips.tab13 signalbenchlaw21_SyncRoundTrips.bits13 (fun HT_ HW_ => ?_)
                      generalize wr.drew = w43 at HO_7 BK291 HB hx299_0 hx299_1 hx299_2 hx299_3 hx299_4 hx300_0 hx300_1 hx300_2 hx300_3 hx300_4 hx301_0 hx301_1 hx301_2 hx301_3 hx301_4 hHeld ⊢
                      refine pstep 0 (some 60) #[true, false, false, false, false, false, false, false, false, false, false, false, false, false, false, false, false, false, false, false, false, false, false, false, false, false, false, false, false, false, false, false, false, false, false, false, false, false, false, false, false, false, false, false, false] HT_.out ?_
                      refine pstep 1 (some 61) #[true, true, false, false, false, false, false, false, false, false, false, false, false, false, false, false, false, false, false, false, false, false, false, false, false, false, false, false, false, false, false, false, false, false, false, false, false, false, false, false, false, false, false, false, false] HT_.out ?_
                      refine pstep 2 (some 62) #[true, true, true, false, false, false, false, false, false, false, false, false, false, false, false, false, false, false, false, false, false, false, false, false, false, false, false, false, false, false, false, false, false, false, false, false, false, false, false, false, false, false, false, false, false] HT_.out ?_
                      refine pstep 3 (some 63) #[true, true, true, true, false, false, false, false, false, false, false, false, false, false, false, false, false, false, false, false, false, false, false, false, false, false, false, false, false, false, false, false, false, false, false, false, false, false, false, false, false, false, false, false, false] HT_.out ?_
                      refine pstep 6 (some 66) #[true, true, true, true, false, false, true, false, false, false, false, false, false, false, false, false, false, false, false, false, false, false, false, false, false, false, false, false, false, false, false, false, false, false, false, false, false, false, false, false, false, false, false, false, false] HT_.out ?_
                      refine pstep 9 (some 69) #[true, true, true, true, false, false, true, false, false, true, false, false, false, false, false, false, false, false, false, false, false, false, false, false, false, false, false, false, false, false, false, false, false, false, false, false, false, false, false, false, false, false, false, false, false] HT_.out ?_
                      refine pstep 10 (some 70) #[true, true, true, true, false, false, true, false, false, true, true, false, false, false, false, false, false, false, false, false, false, false, false, false, false, false, false, false, false, false, false, false, false, false, false, false, false, false, false, false, false, false, false, false, false] HT_.out ?_
                      refine pstep 11 (some 71) #[true, true, true, true, false, false, true, false, false, true, true, true, false, false, false, false, false, false, false, false, false, false, false, false, false, false, false, false, false, false, false, false, false, false, false, false, false, false, false, false, false, false, false, false, false] HT_.out ?_
                      refine pstep 12 (some 72) #[true, true, true, true, false, false, true, false, false, true, true, true, true, false, false, false, false, false, false, false, false, false, false, false, false, false, false, false, false, false, false, false, false, false, false, false, false, false, false, false, false, false, false, false, false] HT_.out ?_
                      refine take_ (i := 4) (N := some 64) (v := ?_) (a' := ?_) #[true, true, true, true, true, false, true, false, false, true, true, true, true, false, false, false, false, false, false, false, false, false, false, false, false, false, false, false, false, false, false, false, false, false, false, false, false, false, false, false, false, false, false, false, false] rfl rfl (take_ofW HT_.out HW_.out (by kernel_rfl)) (fun _ _ _ h => h) (Or.inl ⟨by rfl, ?_⟩) hHeld ?_ ?_
                      rotate_left
                      ·rintro w' ⟨s0, s1, s2, s3, s4, s5, s6, s7, s8, s9, s10, s11, s12, s13, s14, s15, s16, s17⟩
                       go_simp
                       with_reducible rfl
                      rotate_left
                      ·simp only [Act.put, nrm]
                       rfl
                      refine pstep 5 (some 65) #[true, true, true, true, true, true, true, false, false, true, true, true, true, false, false, false, false, false, false, false, false, false, false, false, false, false, false, false, false, false, false, false, false, false, false, false, false, false, false, false, false, false, false, false, false] HT_.out ?_
                      refine take_ (i := 7) (N := some 67) (v := ?_) (a' := ?_) #[true, true, true, true, true, true, true, true, false, true, true, true, true, false, false, false, false, false, false, false, false, false, false, false, false, false, false, false, false, false, false, false, false, false, false, false, false, false, false, false, false, false, false, false, false] rfl rfl (take_ofW HT_.out HW_.out (by kernel_rfl)) (fun _ _ _ h => h) (Or.inl ⟨by rfl, ?_⟩) hHeld ?_ ?_
                      rotate_left
                      ·rintro w' ⟨s0, s1, s2, s3, s4, s5, s6, s7, s8, s9, s10, s11, s12, s13, s14, s15, s16, s17⟩
                       go_simp
                       with_reducible rfl
                      rotate_left
                      ·simp only [Act.put, nrm]
                       rfl
                      refine pstep 8 (some 68) #[true, true, true, true, true, true, true, true, true, true, true, true, true, false, false, false, false, false, false, false, false, false, false, false, false, false, false, false, false, false, false, false, false, false, false, false, false, false, false, false, false, false, false, false, false] HT_.out ?_
                      refine take_ (i := 13) (N := some 73) (v := ?_) (a' := ?_) #[true, true, true, true, true, true, true, true, true, true, true, true, true, true, false, false, false, false, false, false, false, false, false, false, false, false, false, false, false, false, false, false, false, false, false, false, false, false, false, false, false, false, false, false, false] rfl rfl (take_ofW HT_.out HW_.out (by kernel_rfl)) (fun _ _ _ h => h) (Or.inl ⟨by rfl, ?_⟩) hHeld ?_ ?_
                      rotate_left
                      ·rintro w' ⟨s0, s1, s2, s3, s4, s5, s6, s7, s8, s9, s10, s11, s12, s13, s14, s15, s16, s17⟩
                       go_simp
                       with_reducible rfl
                      rotate_left
                      ·simp only [Act.put, nrm]
                       rfl
                      refine pstep 14 (some 74) #[true, true, true, true, true, true, true, true, true, true, true, true, true, true, true, false, false, false, false, false, false, false, false, false, false, false, false, false, false, false, false, false, false, false, false, false, false, false, false, false, false, false, false, false, false] HT_.out ?_
                      refine pstep 15 (some 75) #[true, true, true, true, true, true, true, true, true, true, true, true, true, true, true, true, false, false, false, false, false, false, false, false, false, false, false, false, false, false, false, false, false, false, false, false, false, false, false, false, false, false, false, false, false] HT_.out ?_
                      refine pstep 16 (some 76) #[true, true, true, true, true, true, true, true, true, true, true, true, true, true, true, true, true, false, false, false, false, false, false, false, false, false, false, false, false, false, false, false, false, false, false, false, false, false, false, false, false, false, false, false, false] HT_.out ?_
                      refine pstep 17 (some 77) #[true, true, true, true, true, true, true, true, true, true, true, true, true, true, true, true, true, true, false, false, false, false, false, false, false, false, false, false, false, false, false, false, false, false, false, false, false, false, false, false, false, false, false, false, false] HT_.out ?_
                      refine pstep 18 (some 78) #[true, true, true, true, true, true, true, true, true, true, true, true, true, true, true, true, true, true, true, false, false, false, false, false, false, false, false, false, false, false, false, false, false, false, false, false, false, false, false, false, false, false, false, false, false] HT_.out ?_
                      refine pstep 19 (some 79) #[true, true, true, true, true, true, true, true, true, true, true, true, true, true, true, true, true, true, true, true, false, false, false, false, false, false, false, false, false, false, false, false, false, false, false, false, false, false, false, false, false, false, false, false, false] HT_.out ?_
                      refine pstep 20 (some 80) #[true, true, true, true, true, true, true, true, true, true, true, true, true, true, true, true, true, true, true, true, true, false, false, false, false, false, false, false, false, false, false, false, false, false, false, false, false, false, false, false, false, false, false, false, false] HT_.out ?_
                      refine pstep 21 (some 81) #[true, true, true, true, true, true, true, true, true, true, true, true, true, true, true, true, true, true, true, true, true, true, false, false, false, false, false, false, false, false, false, false, false, false, false, false, false, false, false, false, false, false, false, false, false] HT_.out ?_
                      refine pstep 22 (some 82) #[true, true, true, true, true, true, true, true, true, true, true, true, true, true, true, true, true, true, true, true, true, true, true, false, false, false, false, false, false, false, false, false, false, false, false, false, false, false, false, false, false, false, false, false, false] HT_.out ?_
                      refine pstep 24 (some 84) #[true, true, true, true, true, true, true, true, true, true, true, true, true, true, true, true, true, true, true, true, true, true, true, false, true, false, false, false, false, false, false, false, false, false, false, false, false, false, false, false, false, false, false, false, false] HT_.out ?_
                      refine pstep 28 (some 88) #[true, true, true, true, true, true, true, true, true, true, true, true, true, true, true, true, true, true, true, true, true, true, true, false, true, false, false, false, true, false, false, false, false, false, false, false, false, false, false, false, false, false, false, false, false] HT_.out ?_
                      refine take_ (i := 23) (N := some 83) (v := ?_) (a' := ?_) #[true, true, true, true, true, true, true, true, true, true, true, true, true, true, true, true, true, true, true, true, true, true, true, true, true, false, false, false, true, false, false, false, false, false, false, false, false, false, false, false, false, false, false, false, false] rfl rfl (take_ofW HT_.out HW_.out (by kernel_rfl)) (fun _ _ _ h => h) (Or.inl ⟨by rfl, ?_⟩) hHeld ?_ ?_
                      rotate_left
                      ·rintro w' ⟨s0, s1, s2, s3, s4, s5, s6, s7, s8, s9, s10, s11, s12, s13, s14, s15, s16, s17⟩
                       go_simp
                       with_reducible rfl
                      rotate_left
                      ·simp only [Act.put, nrm]
                       rfl
                      refine take_ (i := 25) (N := some 85) (v := ?_) (a' := ?_) #[true, true, true, true, true, true, true, true, true, true, true, true, true, true, true, true, true, true, true, true, true, true, true, true, true, true, false, false, true, false, false, false, false, false, false, false, false, false, false, false, false, false, false, false, false] rfl rfl (take_ofW HT_.out HW_.out (by kernel_rfl)) (fun _ _ _ h => h) (Or.inl ⟨by rfl, ?_⟩) hHeld ?_ ?_
                      rotate_left
                      ·rintro w' ⟨s0, s1, s2, s3, s4, s5, s6, s7, s8, s9, s10, s11, s12, s13, s14, s15, s16, s17⟩
                       go_simp
                       with_reducible rfl
                      rotate_left
                      ·simp only [Act.put, nrm]
                       rfl
                      refine pstep 26 (some 86) #[true, true, true, true, true, true, true, true, true, true, true, true, true, true, true, true, true, true, true, true, true, true, true, true, true, true, true, false, true, false, false, false, false, false, false, false, false, false, false, false, false, false, false, false, false] HT_.out ?_
                      refine pstep 27 (some 87) #[true, true, true, true, true, true, true, true, true, true, true, true, true, true, true, true, true, true, true, true, true, true, true, true, true, true, true, true, true, false, false, false, false, false, false, false, false, false, false, false, false, false, false, false, false] HT_.out ?_
                      refine take_ (i := 29) (N := some 89) (v := ?_) (a' := ?_) #[true, true, true, true, true, true, true, true, true, true, true, true, true, true, true, true, true, true, true, true, true, true, true, true, true, true, true, true, true, true, false, false, false, false, false, false, false, false, false, false, false, false, false, false, false] rfl rfl (take_ofW HT_.out HW_.out (by kernel_rfl)) (fun _ _ _ h => h) (Or.inl ⟨by rfl, ?_⟩) hHeld ?_ ?_
                      rotate_left
                      ·rintro w' ⟨s0, s1, s2, s3, s4, s5, s6, s7, s8, s9, s10, s11, s12, s13, s14, s15, s16, s17⟩
                       go_simp
                       with_reducible rfl
                      rotate_left
                      ·simp only [Act.put, nrm]
                       rfl
                      refine pstep 30 (some 90) #[true, true, true, true, true, true, true, true, true, true, true, true, true, true, true, true, true, true, true, true, true, true, true, true, true, true, true, true, true, true, true, false, false, false, false, false, false, false, false, false, false, false, false, false, false] HT_.out ?_
                      refine pstep 31 (some 91) #[true, true, true, true, true, true, true, true, true, true, true, true, true, true, true, true, true, true, true, true, true, true, true, true, true, true, true, true, true, true, true, true, false, false, false, false, false, false, false, false, false, false, false, false, false] HT_.out ?_
                      refine pstep 32 (some 92) #[true, true, true, true, true, true, true, true, true, true, true, true, true, true, true, true, true, true, true, true, true, true, true, true, true, true, true, true, true, true, true, true, true, false, false, false, false, false, false, false, false, false, false, false, false] HT_.out ?_
                      refine pure_ (i := 33) (N := some 93) (v := undef) (a' := ?_) #[true, true, true, true, true, true, true, true, true, true, true, true, true, true, true, true, true, true, true, true, true, true, true, true, true, true, true, true, true, true, true, true, true, true, false, false, false, false, false, false, false, false, false, false, false] rfl rfl (any_of HT_.out (by kernel_rfl)) (fun _ _ _ h => h) (Or.inr ⟨by rfl, rfl⟩) ?_ ?_
                      rotate_left
                      ·simp only [Act.put, nrm]
                       rfl
                      refine pure_ (i := 34) (N := some 94) (v := undef) (a' := ?_) #[true, true, true, true, true, true, true, true, true, true, true, true, true, true, true, true, true, true, true, true, true, true, true, true, true, true, true, true, true, true, true, true, true, true, true, false, false, false, false, false, false, false, false, false, false] rfl rfl (any_of HT_.out (by kernel_rfl)) (fun _ _ _ h => h) (Or.inr ⟨by rfl, rfl⟩) ?_ ?_
                      rotate_left
                      ·simp only [Act.put, nrm]
                       rfl
                      refine pure_ (i := 35) (N := some 95) (v := undef) (a' := ?_) #[true, true, true, true, true, true, true, true, true, true, true, true, true, true, true, true, true, true, true, true, true, true, true, true, true, true, true, true, true, true, true, true, true, true, true, true, false, false, false, false, false, false, false, false, false] rfl rfl (any_of HT_.out (by kernel_rfl)) (fun _ _ _ h => h) (Or.inr ⟨by rfl, rfl⟩) ?_ ?_
                      rotate_left
                      ·simp only [Act.put, nrm]
                       rfl
                      refine pure_ (i := 36) (N := some 96) (v := undef) (a' := ?_) #[true, true, true, true, true, true, true, true, true, true, true, true, true, true, true, true, true, true, true, true, true, true, true, true, true, true, true, true, true, true, true, true, true, true, true, true, true, false, false, false, false, false, false, false, false] rfl rfl (any_of HT_.out (by kernel_rfl)) (fun _ _ _ h => h) (Or.inr ⟨by rfl, rfl⟩) ?_ ?_
                      rotate_left
                      ·simp only [Act.put, nrm]
                       rfl
                      refine pure_ (i := 37) (N := some 97) (v := undef) (a' := ?_) #[true, true, true, true, true, true, true, true, true, true, true, true, true, true, true, true, true, true, true, true, true, true, true, true, true, true, true, true, true, true, true, true, true, true, true, true, true, true, false, false, false, false, false, false, false] rfl rfl (any_of HT_.out (by kernel_rfl)) (fun _ _ _ h => h) (Or.inr ⟨by rfl, rfl⟩) ?_ ?_
                      rotate_left
                      ·simp only [Act.put, nrm]
                       rfl
                      refine pure_ (i := 38) (N := some 98) (v := undef) (a' := ?_) #[true, true, true, true, true, true, true, true, true, true, true, true, true, true, true, true, true, true, true, true, true, true, true, true, true, true, true, true, true, true, true, true, true, true, true, true, true, true, true, false, false, false, false, false, false] rfl rfl (any_of HT_.out (by kernel_rfl)) (fun _ _ _ h => h) (Or.inr ⟨by rfl, rfl⟩) ?_ ?_
                      rotate_left
                      ·simp only [Act.put, nrm]
                       rfl
                      refine pure_ (i := 39) (N := some 99) (v := undef) (a' := ?_) #[true, true, true, true, true, true, true, true, true, true, true, true, true, true, true, true, true, true, true, true, true, true, true, true, true, true, true, true, true, true, true, true, true, true, true, true, true, true, true, true, false, false, false, false, false] rfl rfl (any_of HT_.out (by kernel_rfl)) (fun _ _ _ h => h) (Or.inr ⟨by rfl, rfl⟩) ?_ ?_
                      rotate_left
                      ·simp only [Act.put, nrm]
                       rfl
                      refine pure_ (i := 40) (N := some 100) (v := undef) (a' := ?_) #[true, true, true, true, true, true, true, true, true, true, true, true, true, true, true, true, true, true, true, true, true, true, true, true, true, true, true, true, true, true, true, true, true, true, true, true, true, true, true, true, true, false, false, false, false] rfl rfl (any_of HT_.out (by kernel_rfl)) (fun _ _ _ h => h) (Or.inr ⟨by rfl, rfl⟩) ?_ ?_
                      rotate_left
                      ·simp only [Act.put, nrm]
                       rfl
                      refine pure_ (i := 41) (N := some 101) (v := undef) (a' := ?_) #[true, true, true, true, true, true, true, true, true, true, true, true, true, true, true, true, true, true, true, true, true, true, true, true, true, true, true, true, true, true, true, true, true, true, true, true, true, true, true, true, true, true, false, false, false] rfl rfl (any_of HT_.out (by kernel_rfl)) (fun _ _ _ h => h) (Or.inr ⟨by rfl, rfl⟩) ?_ ?_
                      rotate_left
                      ·simp only [Act.put, nrm]
                       rfl
                      refine pure_ (i := 42) (N := some 102) (v := undef) (a' := ?_) #[true, true, true, true, true, true, true, true, true, true, true, true, true, true, true, true, true, true, true, true, true, true, true, true, true, true, true, true, true, true, true, true, true, true, true, true, true, true, true, true, true, true, true, false, false] rfl rfl (any_of HT_.out (by kernel_rfl)) (fun _ _ _ h => h) (Or.inr ⟨by rfl, rfl⟩) ?_ ?_
                      rotate_left
                      ·simp only [Act.put, nrm]
                       rfl
                      refine pure_ (i := 43) (N := some 103) (v := undef) (a' := ?_) #[true, true, true, true, true, true, true, true, true, true, true, true, true, true, true, true, true, true, true, true, true, true, true, true, true, true, true, true, true, true, true, true, true, true, true, true, true, true, true, true, true, true, true, true, false] rfl rfl (any_of HT_.out (by kernel_rfl)) (fun _ _ _ h => h) (Or.inr ⟨by rfl, rfl⟩) ?_ ?_
                      rotate_left
                      ·simp only [Act.put, nrm]
                       rfl
                      refine pstep 44 (some 104) #[true, true, true, true, true, true, true, true, true, true, true, true, true, true, true, true, true, true, true, true, true, true, true, true, true, true, true, true, true, true, true, true, true, true, true, true, true, true, true, true, true, true, true, true, true] HT_.out ?_
                      refine done_ (done_of HT_.out (by kernel_rfl)) ?_
                      try go_wp2
                      go_ret
                      exact ⟨by first | rfl | (simp [errW_none, errW_some] <;> rfl) | (simp [*, errW_none, errW_some] <;> rfl), by repeat (first | (with_reducible first | exact HB.out | apply below_alloc | apply pw_below_drewN | apply below_drew1 | refine below_set ?_ GE291.out) | exact HB.out)⟩
                    ·rw [if_neg c35] at H
                     exact absurd H (by simp)
                   ·rw [if_neg c34] at H
                    exact absurd H (by simp)
                  ·rw [if_neg c33] at H
                   have c33b0 : ((((rd_T46 t294 x9_7).f3).size : Int) == (wrap64 ((a0_0.size : Int) + (wrap64 (8 * (((rd_T46 l1 x9_7).f3).size : Int)))))) = false := beq_eq_false_iff_ne.mpr c33
                   have c33b1 : ((((rd_T46 t294 x9_7).f3).size : Int) != (wrap64 ((a0_0.size : Int) + (wrap64 (8 * (((rd_T46 l1 x9_7).f3).size : Int)))))) = true := bne_iff_ne.mpr c33
                   obtain rfl := Option.some.inj H
                   obtain ⟨Ao44, co44, eo44⟩ := Kd.R_slice HO_7.out
                   subst eo44
                   try go_wp2
                   have n0_ := Aside0.mk (Kd.R_drew HO_7.out)
                   have n1_ := Aside0.mk (blk_drew BK291.out)
                   have n2_ := Aside0.mk (below_drew1 HB.out)
                   clear HO_7
                   clear BK291
                   clear HB
                   have HO_7 := n0_
                   have BK291 := n1_
                   have HB := n2_
                   clear n0_ n1_ n2_
                   have p299 : 0 ≤ (x9_7 : Int) := of_decide_eq_true (by first | (with_reducible assumption) | assumption)
                   have q299 : x9_7 < (t294.length : Int) := of_decide_eq_true (by first | (with_reducible assumption) | assumption)
                   obtain ⟨ad299, e299, hx299_0, hx299_1, hx299_2, hx299_3, hx299_4⟩ := at_T46 (Kd.R_reads' HO_7.out).2.2 x9_7 p299 q299
                   cases e299
                   replace p299 := eq_true p299
                   replace q299 := eq_true q299
                   have p300 : 0 ≤ (x9_7 : Int) := of_decide_eq_true (by first | (with_reducible assumption) | assumption)
                   have q300 : x9_7 < (l1.length : Int) := of_decide_eq_true (by first | (with_reducible assumption) | assumption)
                   obtain ⟨ad300, e300, hx300_0, hx300_1, hx300_2, hx300_3, hx300_4⟩ := at_T46 HR1.out x9_7 p300 q300
                   have hw300_4 := hx300_4
                   have hw300_3 := hx300_3
                   have hw300_2 := hx300_2
                   have hw300_1 := hx300_1
                   have hw300_0 := hx300_0
                   cases e300
                   replace hx300_0 := (HB.out.cell (World.block_lt_of_cell? w _ hx300_0)).trans hx300_0
                   replace hx300_1 := (HB.out.cell (World.block_lt_of_cell? w _ hx300_1)).trans hx300_1
                   replace hx300_2 := (HB.out.cell (World.block_lt_of_cell? w _ hx300_2)).trans hx300_2
                   replace hx300_3 := (HB.out.cell (World.block_lt_of_cell? w _ hx300_3)).trans hx300_3
                   replace hx300_4 := (HB.out.cell (World.block_lt_of_cell? w _ hx300_4)).trans hx300_4
                   replace p300 := eq_true p300
                   replace q300 := eq_true q300
                   refine start_ (n := 45) (S := fun w' => w'.cell? ⟨gb291, 0, none⟩ = some (.string a0_0) ∧ w'.cell? ⟨gb291, 1, none⟩ = some (.int .i64 a0_1) ∧ w'.cell? ⟨gb291, 2, none⟩ = some (.bool a0_2) ∧ w'.cell? (ad299.add ((x9_7).toNat * 5)) = some (.int .i64 ((rd_T46 t294 x9_7).f0)) ∧ w'.cell? ⟨(ad299.add ((x9_7).toNat * 5)).block, (ad299.add ((x9_7).toNat * 5)).off + 1, none⟩ = some (.int .i64 ((rd_T46 t294 x9_7).f1)) ∧ w'.cell? ⟨(ad299.add ((x9_7).toNat * 5)).block, (ad299.add ((x9_7).toNat * 5)).off + 2, none⟩ = some (.int .i64 ((rd_T46 t294 x9_7).f2)) ∧ w'.cell? ⟨(ad299.add ((x9_7).toNat * 5)).block, (ad299.add ((x9_7).toNat * 5)).off + 3, none⟩ = some (.string ((rd_T46 t294 x9_7).f3)) ∧ w'.cell? ⟨(ad299.add ((x9_7).toNat * 5)).block, (ad299.add ((x9_7).toNat * 5)).off + 4, none⟩ = some (.int .i64 ((rd_T46 t294 x9_7).f4)) ∧ w'.cell? (ad300.add ((x9_7).toNat * 5)) = some (.int .i64 ((rd_T46 l1 x9_7).f0)) ∧ w'.cell? ⟨(ad300.add ((x9_7).toNat * 5)).block, (ad300.add ((x9_7).toNat * 5)).off + 1, none⟩ = some (.int .i64 ((rd_T46 l1 x9_7).f1)) ∧ w'.cell? ⟨(ad300.add ((x9_7).toNat * 5)).block, (ad300.add ((x9_7).toNat * 5)).off + 2, none⟩ = some (.int .i64 ((rd_T46 l1 x9_7).f2)) ∧ w'.cell? ⟨(ad300.add ((x9_7).toNat * 5)).block, (ad300.add ((x9_7).toNat * 5)).off + 3, none⟩ = some (.string ((rd_T46 l1 x9_7).f3)) ∧ w'.cell? ⟨(ad300.add ((x9_7).toNat * 5)).block, (ad300.add ((x9_7).toNat * 5)).off + 4, none⟩ = some (.int .i64 ((rd_T46 l1 x9_7).f4))) (ds := []) #[false, false, false, false, false, false, false, false, false, false, false, false, false, false, false, false, false, false, false, false, false, false, false, false, false, false, false, false, false, false, false, false, false, false, false, false, false, false, false, false, false, false, false, false, false] (by kernel_rfl) rfl rfl ⟨(blk_cell BK291.out 0).trans rfl, (blk_cell BK291.out 1).trans rfl, (blk_cell BK291.out 2).trans rfl, hx299_0, hx299_1, hx299_2, hx299_3, hx299_4, ((HB.out.cell (World.block_lt_of_cell? w _ hw300_0)).trans hw300_0), ((HB.out.cell (World.block_lt_of_cell? w _ hw300_1)).trans hw300_1), ((HB.out.cell (World.block_lt_of_cell? w _ hw300_2)).trans hw300_2), ((HB.out.cell (World.block_lt_of_cell? w _ hw300_3)).trans hw300_3), ((HB.out.cell (World.block_lt_of_cell? w _ hw300_4)).trans hw300_4)⟩ (fun hHeld => ?_); refine with_tabW signalbenchlaw21_SyncRoundTrips.tab13 signalbenchlaw21_SyncRoundTrips.bits13 (fun HT_ HW_ => ?_)
                   generalize wr.drew = w45 at HO_7 BK291 HB hx299_0 hx299_1 hx299_2 hx299_3 hx299_4 hx300_0 hx300_1 hx300_2 hx300_3 hx300_4 hHeld ⊢
                   refine pstep 0 (some 60) #[true, false, false, false, false, false, false, false, false, false, false, false, false, false, false, false, false, false, false, false, false, false, false, false, false, false, false, false, false, false, false, false, false, false, false, false, false, false, false, false, false, false, false, false, false] HT_.out ?_
                   refine pstep 1 (some 61) #[true, true, false, false, false, false, false, false, false, false, false, false, false, false, false, false, false, false, false, false, false, false, false, false, false, false, false, false, false, false, false, false, false, false, false, false, false, false, false, false, false, false, false, false, false] HT_.out ?_
                   refine pstep 2 (some 62) #[true, true, true, false, false, false, false, false, false, false, false, false, false, false, false, false, false, false, false, false, false, false, false, false, false, false, false, false, false, false, false, false, false, false, false, false, false, false, false, false, false, false, false, false, false] HT_.out ?_
                   refine pstep 3 (some 63) #[true, true, true, true, false, false, false, false, false, false, false, false, false, false, false, false, false, false, false, false, false, false, false, false, false, false, false, false, false, false, false, false, false, false, false, false, false, false, false, false, false, false, false, false, false] HT_.out ?_
                   refine pstep 6 (some 66) #[true, true, true, true, false, false, true, false, false, false, false, false, false, false, false, false, false, false, false, false, false, false, false, false, false, false, false, false, false, false, false, false, false, false, false, false, false, false, false, false, false, false, false, false, false] HT_.out ?_
                   refine pstep 9 (some 69) #[true, true, true, true, false, false, true, false, false, true, false, false, false, false, false, false, false, false, false, false, false, false, false, false, false, false, false, false, false, false, false, false, false, false, false, false, false, false, false, false, false, false, false, false, false] HT_.out ?_
                   refine pstep 10 (some 70) #[true, true, true, true, false, false, true, false, false, true, true, false, false, false, false, false, false, false, false, false, false, false, false, false, false, false, false, false, false, false, false, false, false, false, false, false, false, false, false, false, false, false, false, false, false] HT_.out ?_
                   refine pstep 11 (some 71) #[true, true, true, true, false, false, true, false, false, true, true, true, false, false, false, false, false, false, false, false, false, false, false, false, false, false, false, false, false, false, false, false, false, false, false, false, false, false, false, false, false, false, false, false, false] HT_.out ?_
                   refine pstep 12 (some 72) #[true, true, true, true, false, false, true, false, false, true, true, true, true, false, false, false, false, false, false, false, false, false, false, false, false, false, false, false, false, false, false, false, false, false, false, false, false, false, false, false, false, false, false, false, false] HT_.out ?_
                   refine take_ (i := 4) (N := some 64) (v := ?_) (a' := ?_) #[true, true, true, true, true, false, true, false, false, true, true, true, true, false, false, false, false, false, false, false, false, false, false, false, false, false, false, false, false, false, false, false, false, false, false, false, false, false, false, false, false, false, false, false, false] rfl rfl (take_ofW HT_.out HW_.out (by kernel_rfl)) (fun _ _ _ h => h) (Or.inl ⟨by rfl, ?_⟩) hHeld ?_ ?_
                   rotate_left
                   ·rintro w' ⟨s0, s1, s2, s3, s4, s5, s6, s7, s8, s9, s10, s11, s12⟩
                    go_simp
                    with_reducible rfl
                   rotate_left
                   ·simp only [Act.put, nrm]
                    rfl
                   refine pstep 5 (some 65) #[true, true, true, true, true, true, true, false, false, true, true, true, true, false, false, false, false, false, false, false, false, false, false, false, false, false, false, false, false, false, false, false, false, false, false, false, false, false, false, false, false, false, false, false, false] HT_.out ?_
                   refine take_ (i := 7) (N := some 67) (v := ?_) (a' := ?_) #[true, true, true, true, true, true, true, true, false, true, true, true, true, false, false, false, false, false, false, false, false, false, false, false, false, false, false, false, false, false, false, false, false, false, false, false, false, false, false, false, false, false, false, false, false] rfl rfl (take_ofW HT_.out HW_.out (by kernel_rfl)) (fun _ _ _ h => h) (Or.inl ⟨by rfl, ?_⟩) hHeld ?_ ?_
                   rotate_left
                   ·rintro w' ⟨s0, s1, s2, s3, s4, s5, s6, s7, s8, s9, s10, s11, s12⟩
                    go_simp
                    with_reducible rfl
                   rotate_left
                   ·simp only [Act.put, nrm]
                    rfl
                   refine pstep 8 (some 68) #[true, true, true, true, true, true, true, true, true, true, true, true, true, false, false, false, false, false, false, false, false, false, false, false, false, false, false, false, false, false, false, false, false, false, false, false, false, false, false, false, false, false, false, false, false] HT_.out ?_
                   refine take_ (i := 13) (N := some 73) (v := ?_) (a' := ?_) #[true, true, true, true, true, true, true, true, true, true, true, true, true, true, false, false, false, false, false, false, false, false, false, false, false, false, false, false, false, false, false, false, false, false, false, false, false, false, false, false, false, false, false, false, false] rfl rfl (take_ofW HT_.out HW_.out (by kernel_rfl)) (fun _ _ _ h => h) (Or.inl ⟨by rfl, ?_⟩) hHeld ?_ ?_
                   rotate_left
                   ·rintro w' ⟨s0, s1, s2, s3, s4, s5, s6, s7, s8, s9, s10, s11, s12⟩
                    go_simp
                    with_reducible rfl
                   rotate_left
                   ·simp only [Act.put, nrm]
                    rfl
                   refine pstep 14 (some 74) #[true, true, true, true, true, true, true, true, true, true, true, true, true, true, true, false, false, false, false, false, false, false, false, false, false, false, false, false, false, false, false, false, false, false, false, false, false, false, false, false, false, false, false, false, false] HT_.out ?_
                   refine pstep 15 (some 75) #[true, true, true, true, true, true, true, true, true, true, true, true, true, true, true, true, false, false, false, false, false, false, false, false, false, false, false, false, false, false, false, false, false, false, false, false, false, false, false, false, false, false, false, false, false] HT_.out ?_
                   refine pstep 16 (some 76) #[true, true, true, true, true, true, true, true, true, true, true, true, true, true, true, true, true, false, false, false, false, false, false, false, false, false, false, false, false, false, false, false, false, false, false, false, false, false, false, false, false, false, false, false, false] HT_.out ?_
                   refine pstep 17 (some 77) #[true, true, true, true, true, true, true, true, true, true, true, true, true, true, true, true, true, true, false, false, false, false, false, false, false, false, false, false, false, false, false, false, false, false, false, false, false, false, false, false, false, false, false, false, false] HT_.out ?_
                   refine pstep 18 (some 78) #[true, true, true, true, true, true, true, true, true, true, true, true, true, true, true, true, true, true, true, false, false, false, false, false, false, false, false, false, false, false, false, false, false, false, false, false, false, false, false, false, false, false, false, false, false] HT_.out ?_
                   refine pure_ (i := 19) (N := some 79) (v := undef) (a' := ?_) #[true, true, true, true, true, true, true, true, true, true, true, true, true, true, true, true, true, true, true, true, false, false, false, false, false, false, false, false, false, false, false, false, false, false, false, false, false, false, false, false, false, false, false, false, false] rfl rfl (any_of HT_.out (by kernel_rfl)) (fun _ _ _ h => h) (Or.inr ⟨by rfl, rfl⟩) ?_ ?_
                   rotate_left
                   ·simp only [Act.put, nrm]
                    rfl
                   refine pure_ (i := 20) (N := some 80) (v := undef) (a' := ?_) #[true, true, true, true, true, true, true, true, true, true, true, true, true, true, true, true, true, true, true, true, true, false, false, false, false, false, false, false, false, false, false, false, false, false, false, false, false, false, false, false, false, false, false, false, false] rfl rfl (any_of HT_.out (by kernel_rfl)) (fun _ _ _ h => h) (Or.inr ⟨by rfl, rfl⟩) ?_ ?_
                   rotate_left
                   ·simp only [Act.put, nrm]
                    rfl
                   refine pure_ (i := 21) (N := some 81) (v := undef) (a' := ?_) #[true, true, true, true, true, true, true, true, true, true, true, true, true, true, true, true, true, true, true, true, true, true, false, false, false, false, false, false, false, false, false, false, false, false, false, false, false, false, false, false, false, false, false, false, false] rfl rfl (any_of HT_.out (by kernel_rfl)) (fun _ _ _ h => h) (Or.inr ⟨by rfl, rfl⟩) ?_ ?_
                   rotate_left
                   ·simp only [Act.put, nrm]
                    rfl
                   refine pure_ (i := 22) (N := some 82) (v := undef) (a' := ?_) #[true, true, true, true, true, true, true, true, true, true, true, true, true, true, true, true, true, true, true, true, true, true, true, false, false, false, false, false, false, false, false, false, false, false, false, false, false, false, false, false, false, false, false, false, false] rfl rfl (any_of HT_.out (by kernel_rfl)) (fun _ _ _ h => h) (Or.inr ⟨by rfl, rfl⟩) ?_ ?_
                   rotate_left
                   ·simp only [Act.put, nrm]
                    rfl
                   refine pure_ (i := 23) (N := some 83) (v := undef) (a' := ?_) #[true, true, true, true, true, true, true, true, true, true, true, true, true, true, true, true, true, true, true, true, true, true, true, true, false, false, false, false, false, false, false, false, false, false, false, false, false, false, false, false, false, false, false, false, false] rfl rfl (any_of HT_.out (by kernel_rfl)) (fun _ _ _ h => h) (Or.inr ⟨by rfl, rfl⟩) ?_ ?_
                   rotate_left
                   ·simp only [Act.put, nrm]
                    rfl
                   refine pure_ (i := 24) (N := some 84) (v := undef) (a' := ?_) #[true, true, true, true, true, true, true, true, true, true, true, true, true, true, true, true, true, true, true, true, true, true, true, true, true, false, false, false, false, false, false, false, false, false, false, false, false, false, false, false, false, false, false, false, false] rfl rfl (any_of HT_.out (by kernel_rfl)) (fun _ _ _ h => h) (Or.inr ⟨by rfl, rfl⟩) ?_ ?_
                   rotate_left
                   ·simp only [Act.put, nrm]
                    rfl
                   refine pure_ (i := 25) (N := some 85) (v := undef) (a' := ?_) #[true, true, true, true, true, true, true, true, true, true, true, true, true, true, true, true, true, true, true, true, true, true, true, true, true, true, false, false, false, false, false, false, false, false, false, false, false, false, false, false, false, false, false, false, false] rfl rfl (any_of HT_.out (by kernel_rfl)) (fun _ _ _ h => h) (Or.inr ⟨by rfl, rfl⟩) ?_ ?_
                   rotate_left
                   ·simp only [Act.put, nrm]
                    rfl
                   refine pure_ (i := 26) (N := some 86) (v := undef) (a' := ?_) #[true, true, true, true, true, true, true, true, true, true, true, true, true, true, true, true, true, true, true, true, true, true, true, true, true, true, true, false, false, false, false, false, false, false, false, false, false, false, false, false, false, false, false, false, false] rfl rfl (any_of HT_.out (by kernel_rfl)) (fun _ _ _ h => h) (Or.inr ⟨by rfl, rfl⟩) ?_ ?_
                   rotate_left
                   ·simp only [Act.put, nrm]
                    rfl
                   refine pure_ (i := 27) (N := some 87) (v := undef) (a' := ?_) #[true, true, true, true, true, true, true, true, true, true, true, true, true, true, true, true, true, true, true, true, true, true, true, true, true, true, true, true, false, false, false, false, false, false, false, false, false, false, false, false, false, false, false, false, false] rfl rfl (any_of HT_.out (by kernel_rfl)) (fun _ _ _ h => h) (Or.inr ⟨by rfl, rfl⟩) ?_ ?_
                   rotate_left
                   ·simp only [Act.put, nrm]
                    rfl
                   refine pure_ (i := 28) (N := some 88) (v := undef) (a' := ?_) #[true, true, true, true, true, true, true, true, true, true, true, true, true, true, true, true, true, true, true, true, true, true, true, true, true, true, true, true, true, false, false, false, false, false, false, false, false, false, false, false, false, false, false, false, false] rfl rfl (any_of HT_.out (by kernel_rfl)) (fun _ _ _ h => h) (Or.inr ⟨by rfl, rfl⟩) ?_ ?_
                   rotate_left
                   ·simp only [Act.put, nrm]
                    rfl
                   refine pure_ (i := 29) (N := some 89) (v := undef) (a' := ?_) #[true, true, true, true, true, true, true, true, true, true, true, true, true, true, true, true, true, true, true, true, true, true, true, true, true, true, true, true, true, true, false, false, false, false, false, false, false, false, false, false, false, false, false, false, false] rfl rfl (any_of HT_.out (by kernel_rfl)) (fun _ _ _ h => h) (Or.inr ⟨by rfl, rfl⟩) ?_ ?_
                   rotate_left
                   ·simp only [Act.put, nrm]
                    rfl
                   refine pure_ (i := 30) (N := some 90) (v := undef) (a' := ?_) #[true, true, true, true, true, true, true, true, true, true, true, true, true, true, true, true, true, true, true, true, true, true, true, true, true, true, true, true, true, true, true, false, false, false, false, false, false, false, false, false, false, false, false, false, false] rfl rfl (any_of HT_.out (by kernel_rfl)) (fun _ _ _ h => h) (Or.inr ⟨by rfl, rfl⟩) ?_ ?_
                   rotate_left
                   ·simp only [Act.put, nrm]
                    rfl
                   refine pstep 31 (some 91) #[true, true, true, true, true, true, true, true, true, true, true, true, true, true, true, true, true, true, true, true, true, true, true, true, true, true, true, true, true, true, true, true, false, false, false, false, false, false, false, false, false, false, false, false, false] HT_.out ?_
                   refine pstep 32 (some 92) #[true, true, true, true, true, true, true, true, true, true, true, true, true, true, true, true, true, true, true, true, true, true, true, true, true, true, true, true, true, true, true, true, true, false, false, false, false, false, false, false, false, false, false, false, false] HT_.out ?_
                   refine pure_ (i := 33) (N := some 93) (v := undef) (a' := ?_) #[true, true, true, true, true, true, true, true, true, true, true, true, true, true, true, true, true, true, true, true, true, true, true, true, true, true, true, true, true, true, true, true, true, true, false, false, false, false, false, false, false, false, false, false, false] rfl rfl (any_of HT_.out (by kernel_rfl)) (fun _ _ _ h => h) (Or.inr ⟨by rfl, rfl⟩) ?_ ?_
                   rotate_left
                   ·simp only [Act.put, nrm]
                    rfl
                   refine pure_ (i := 34) (N := some 94) (v := undef) (a' := ?_) #[true, true, true, true, true, true, true, true, true, true, true, true, true, true, true, true, true, true, true, true, true, true, true, true, true, true, true, true, true, true, true, true, true, true, true, false, false, false, false, false, false, false, false, false, false] rfl rfl (any_of HT_.out (by kernel_rfl)) (fun _ _ _ h => h) (Or.inr ⟨by rfl, rfl⟩) ?_ ?_
                   rotate_left
                   ·simp only [Act.put, nrm]
                    rfl
                   refine pure_ (i := 35) (N := some 95) (v := undef) (a' := ?_) #[true, true, true, true, true, true, true, true, true, true, true, true, true, true, true, true, true, true, true, true, true, true, true, true, true, true, true, true, true, true, true, true, true, true, true, true, false, false, false, false, false, false, false, false, false] rfl rfl (any_of HT_.out (by kernel_rfl)) (fun _ _ _ h => h) (Or.inr ⟨by rfl, rfl⟩) ?_ ?_
                   rotate_left
                   ·simp only [Act.put, nrm]
                    rfl
                   refine pure_ (i := 36) (N := some 96) (v := undef) (a' := ?_) #[true, true, true, true, true, true, true, true, true, true, true, true, true, true, true, true, true, true, true, true, true, true, true, true, true, true, true, true, true, true, true, true, true, true, true, true, true, false, false, false, false, false, false, false, false] rfl rfl (any_of HT_.out (by kernel_rfl)) (fun _ _ _ h => h) (Or.inr ⟨by rfl, rfl⟩) ?_ ?_
                   rotate_left
                   ·simp only [Act.put, nrm]
                    rfl
                   refine pure_ (i := 37) (N := some 97) (v := undef) (a' := ?_) #[true, true, true, true, true, true, true, true, true, true, true, true, true, true, true, true, true, true, true, true, true, true, true, true, true, true, true, true, true, true, true, true, true, true, true, true, true, true, false, false, false, false, false, false, false] rfl rfl (any_of HT_.out (by kernel_rfl)) (fun _ _ _ h => h) (Or.inr ⟨by rfl, rfl⟩) ?_ ?_
                   rotate_left
                   ·simp only [Act.put, nrm]
                    rfl
                   refine pure_ (i := 38) (N := some 98) (v := undef) (a' := ?_) #[true, true, true, true, true, true, true, true, true, true, true, true, true, true, true, true, true, true, true, true, true, true, true, true, true, true, true, true, true, true, true, true, true, true, true, true, true, true, true, false, false, false, false, false, false] rfl rfl (any_of HT_.out (by kernel_rfl)) (fun _ _ _ h => h) (Or.inr ⟨by rfl, rfl⟩) ?_ ?_
                   rotate_left
                   ·simp only [Act.put, nrm]
                    rfl
                   refine pure_ (i := 39) (N := some 99) (v := undef) (a' := ?_) #[true, true, true, true, true, true, true, true, true, true, true, true, true, true, true, true, true, true, true, true, true, true, true, true, true, true, true, true, true, true, true, true, true, true, true, true, true, true, true, true, false, false, false, false, false] rfl rfl (any_of HT_.out (by kernel_rfl)) (fun _ _ _ h => h) (Or.inr ⟨by rfl, rfl⟩) ?_ ?_
                   rotate_left
                   ·simp only [Act.put, nrm]
                    rfl
                   refine pure_ (i := 40) (N := some 100) (v := undef) (a' := ?_) #[true, true, true, true, true, true, true, true, true, true, true, true, true, true, true, true, true, true, true, true, true, true, true, true, true, true, true, true, true, true, true, true, true, true, true, true, true, true, true, true, true, false, false, false, false] rfl rfl (any_of HT_.out (by kernel_rfl)) (fun _ _ _ h => h) (Or.inr ⟨by rfl, rfl⟩) ?_ ?_
                   rotate_left
                   ·simp only [Act.put, nrm]
                    rfl
                   refine pure_ (i := 41) (N := some 101) (v := undef) (a' := ?_) #[true, true, true, true, true, true, true, true, true, true, true, true, true, true, true, true, true, true, true, true, true, true, true, true, true, true, true, true, true, true, true, true, true, true, true, true, true, true, true, true, true, true, false, false, false] rfl rfl (any_of HT_.out (by kernel_rfl)) (fun _ _ _ h => h) (Or.inr ⟨by rfl, rfl⟩) ?_ ?_
                   rotate_left
                   ·simp only [Act.put, nrm]
                    rfl
                   refine pure_ (i := 42) (N := some 102) (v := undef) (a' := ?_) #[true, true, true, true, true, true, true, true, true, true, true, true, true, true, true, true, true, true, true, true, true, true, true, true, true, true, true, true, true, true, true, true, true, true, true, true, true, true, true, true, true, true, true, false, false] rfl rfl (any_of HT_.out (by kernel_rfl)) (fun _ _ _ h => h) (Or.inr ⟨by rfl, rfl⟩) ?_ ?_
                   rotate_left
                   ·simp only [Act.put, nrm]
                    rfl
                   refine pure_ (i := 43) (N := some 103) (v := undef) (a' := ?_) #[true, true, true, true, true, true, true, true, true, true, true, true, true, true, true, true, true, true, true, true, true, true, true, true, true, true, true, true, true, true, true, true, true, true, true, true, true, true, true, true, true, true, true, true, false] rfl rfl (any_of HT_.out (by kernel_rfl)) (fun _ _ _ h => h) (Or.inr ⟨by rfl, rfl⟩) ?_ ?_
                   rotate_left
                   ·simp only [Act.put, nrm]
                    rfl
                   refine pstep 44 (some 104) #[true, true, true, true, true, true, true, true, true, true, true, true, true, true, true, true, true, true, true, true, true, true, true, true, true, true, true, true, true, true, true, true, true, true, true, true, true, true, true, true, true, true, true, true, true] HT_.out ?_
                   refine done_ (done_of HT_.out (by kernel_rfl)) ?_
                   try go_wp2
                   go_ret
                   exact ⟨by first | rfl | (simp [errW_none, errW_some] <;> rfl) | (simp [*, errW_none, errW_some] <;> rfl), by repeat (first | (with_reducible first | exact HB.out | apply below_alloc | apply pw_below_drewN | apply below_drew1 | refine below_set ?_ GE291.out) | exact HB.out)⟩
                 ·rw [if_neg c32] at H
                  exact absurd H (by simp)
                ·rw [if_neg c31] at H
                 exact absurd H (by simp)
               ·rw [if_neg c30] at H
                have c30b0 : decide (x9_7 < (t294.length : Int)) = false := decide_eq_false c30
                clear c30
                replace H := Option.bind_eq_some_iff.mp H
                obtain ⟨t304, A460, H⟩ := H
                replace H : ((sync_Decode.f k7 a0_0 a0_1 a0_2 t304).bind fun t307 => (if (t307.length : Int) = (l1.length : Int) then (signalbenchlaw21_SyncRoundTrips.j7 k7 l1 a2 t294 t307) else (some false))) = some r := H
                have A46 := Aside0.mk A460
                clear A460
                replace H := Option.bind_eq_some_iff.mp H
                obtain ⟨t307, A470, H⟩ := H
                replace H : (if (t307.length : Int) = (l1.length : Int) then (signalbenchlaw21_SyncRoundTrips.j7 k7 l1 a2 t294 t307) else (some false)) = some r := H
                have A47 := Aside0.mk A470
                clear A470
                have HC48 := Aside0.mk H
                clear H
                obtain ⟨Ao49, co49, eo49⟩ := Kd.R_slice HO_7.out
                subst eo49
                try go_wp2
                have n0_ := Aside0.mk (Kd.R_drew HO_7.out)
                have n1_ := Aside0.mk (blk_drew BK291.out)
                have n2_ := Aside0.mk (below_drew1 HB.out)
                clear HO_7
                clear BK291
                clear HB
                have HO_7 := n0_
                have BK291 := n1_
                have HB := n2_
                clear n0_ n1_ n2_
                refine start_ (n := 6) (S := fun w' => w'.cell? ⟨gb291, 0, none⟩ = some (.string a0_0) ∧ w'.cell? ⟨gb291, 1, none⟩ = some (.int .i64 a0_1) ∧ w'.cell? ⟨gb291, 2, none⟩ = some (.bool a0_2)) (ds := []) #[false, false, false, false, false, false] (by kernel_rfl) rfl rfl ⟨(blk_cell BK291.out 0).trans rfl, (blk_cell BK291.out 1).trans rfl, (blk_cell BK291.out 2).trans rfl⟩ (fun hHeld => ?_)
                generalize wr.drew = w50 at HO_7 BK291 HB hHeld ⊢
                refine pure_ (i := 1) (N := some 106) (v := ?_) (a' := ?_) #[false, true, false, false, false, false] rfl rfl (by kernel_rfl) (fun _ _ _ h => h) (Or.inl ⟨by rfl, ?_⟩) ?_ ?_
                rotate_left
                ·intro w'
                 go_simp
                 with_reducible rfl
                rotate_left
                ·simp only [Act.put, nrm]
                 rfl
                refine pure_ (i := 2) (N := some 107) (v := ?_) (a' := ?_) #[false, true, true, false, false, false] rfl rfl (by kernel_rfl) (fun _ _ _ h => h) (Or.inl ⟨by rfl, ?_⟩) ?_ ?_
                rotate_left
                ·intro w'
                 go_simp
                 with_reducible rfl
                rotate_left
                ·simp only [Act.put, nrm]
                 rfl
                refine take_ (i := 0) (N := some 105) (v := ?_) (a' := ?_) #[true, true, true, false, false, false] rfl rfl (by kernel_rfl) (fun _ _ _ h => h) (Or.inl ⟨by rfl, ?_⟩) hHeld ?_ ?_
                rotate_left
                ·rintro w' ⟨s0, s1, s2⟩
                 go_simp
                 with_reducible rfl
                rotate_left
                ·simp only [Act.put, nrm]
                 rfl
                refine one_ (i := 3) (N := some 108) #[true, true, true, true, false, false] rfl rfl (by kernel_rfl) (by decide) (fun K hK => ?_)
                refine goes_ Try.func25 (by kernel_rfl) rfl #[.slice Ao49 t294.length co49, .int .i64 a2] (by rfl) rfl rfl (by (try simp only [List.map_toArray, List.map_cons, List.map_nil]); first | done | rfl | (simp only [List.length_drop, List.length_take]; rfl)) ?_
                with_reducible refine (signalbenchlaw21_events.calls k7 _ _ t294 a2 t304 _ ?side1 ?side2 A46.out).mono ?_
                (case side1 => repeat (first | exact (Kd.R_reads' HO_7.out).2.2 | (with_reducible refine Kd.C_alloc ?_ _) | (with_reducible refine Kd.C_drewN ?_ _) | (with_reducible refine Kd.C_drew ?_)))
                (case side2 => exact (Kd.R_reads' HO_7.out).2.1)
                rintro e w51 ⟨v305, rfl, ho0, hb⟩
                refine ⟨_, rfl, ?_⟩
                have n0_ := Aside0.mk (Kd.R_below (rkw HO_7.out) hb)
                have n1_ := Aside0.mk (Kd.R_lower ho0 (below_size (hbw HB.out)))
                have n2_ := Aside0.mk (blkb BK291.out hb)
                have n3_ := Aside0.mk (below_step (hbw HB.out) hb)
                clear HO_7
                clear BK291
                clear HB
                have HO_7 := n0_
                have HO306 := n1_
                have BK291 := n2_
                have HB := n3_
                clear n0_ n1_ n2_ n3_
                (try clear hb)
                (try clear hb2)
                (try clear hk)
                (try clear hi)
                (try clear ho0)
                obtain ⟨Ao52, co52, eo52⟩ := Kd.R_slice HO306.out
                (first | subst eo52 | (injection eo52 with f1_ f2_ f3_; have f4_ := f1_.symm; have f5_ := f3_.symm; clear f1_ f2_ f3_; subst f4_; subst f5_))
                refine hK.out _ _ ⟨(blk_cell BK291.out 0).trans rfl, (blk_cell BK291.out 1).trans rfl, (blk_cell BK291.out 2).trans rfl⟩ (fun hHeld => ?_)
                clear hK K
                refine norm_ (a' := ?_) ?_ ?_
                rotate_left
                ·show Act.put _ (some 108) _ = _
                 simp only [Act.put, nrm]
                 rfl
                refine one_ (i := 4) (N := some 109) #[true, true, true, true, true, false] rfl rfl (by kernel_rfl) (by decide) (fun K hK => ?_)
                refine goes_ Try.func16 (by kernel_rfl) rfl #[.agg #[.string a0_0, .int .i64 a0_1, .bool a0_2], .slice Ao52 t304.length co52] (by rfl) rfl rfl (by (try simp only [List.map_toArray, List.map_cons, List.map_nil]); first | done | rfl | (simp only [List.length_drop, List.length_take]; rfl)) ?_
                with_reducible refine (sync_Decode.calls k7 a0_0 a0_1 a0_2 _ _ t304 t307 _ ?side1 ?side2 A47.out).mono ?_
                (case side1 => repeat (first | exact (Kd.R_reads' HO306.out).2.2 | (with_reducible refine Kd.C_alloc ?_ _) | (with_reducible refine Kd.C_drewN ?_ _) | (with_reducible refine Kd.C_drew ?_)))
                (case side2 => exact (Kd.R_reads' HO306.out).2.1)
                rintro e w53 ⟨v308, rfl, ho0, hb⟩
                refine ⟨_, rfl, ?_⟩
                have n0_ := Aside0.mk (Kd.R_below (rkw HO_7.out) hb)
                have n1_ := Aside0.mk (Kd.R_elder' (rkw HO306.out) (Kd.R_base ho0) hb)
                have n2_ := Aside0.mk (Kd.R_lower (Kd.R_new' ho0 (Kd.R_lt (rkw HO306.out))) (below_size (hbw HB.out)))
                have n3_ := Aside0.mk (blkb BK291.out hb)
                have n4_ := Aside0.mk (below_step (hbw HB.out) hb)
                clear HO_7
                clear HO306
                clear BK291
                clear HB
                have HO_7 := n0_
                have HO306 := n1_
                have HO309 := n2_
                have BK291 := n3_
                have HB := n4_
                clear n0_ n1_ n2_ n3_ n4_
                (try clear hb)
                (try clear hb2)
                (try clear hk)
                (try clear hi)
                (try clear ho0)
                refine hK.out _ _ ⟨(blk_cell BK291.out 0).trans rfl, (blk_cell BK291.out 1).trans rfl, (blk_cell BK291.out 2).trans rfl⟩ (fun hHeld => ?_)
                clear hK K
                refine norm_ (a' := ?_) ?_ ?_
                rotate_left
                ·show Act.put _ (some 109) _ = _
                 simp only [Act.put, nrm]
                 rfl
                refine pure_ (i := 5) (N := some 10) (v := ?_) (a' := ?_) #[true, true, true, true, true, true] rfl rfl (by kernel_rfl) (fun _ _ _ h => h) (Or.inl ⟨by rfl, ?_⟩) ?_ ?_
                rotate_left
                ·intro w'
                 go_simp
                 with_reducible rfl
                rotate_left
                ·simp only [Act.put, nrm]
                 rfl
                refine done_ (by kernel_rfl) ?_
                obtain ⟨Ao54, co54, eo54⟩ := Kd.R_slice HO309.out
                subst eo54
                go_upto_if 114 with (fail)
                go_cut [] (fun wc => ∃ (kq : Nat), Aside0 (signalbenchlaw21_SyncRoundTrips.j7 kq l1 a2 t294 t307 = some r) ∧ Aside0 (kq ≤ k7) ∧ Aside0 (Kd.R k46 46 wc w.heap.size (fun _ => True) (.slice Ao49 t294.length co49) t294) ∧ Aside0 (Kd.R k32 32 wc w.heap.size (fun _ => True) (.slice Ao54 t307.length co54) t307) ∧ Aside0 (wc.heap[gb291]? = some (.cells #[.string a0_0, .int .i64 a0_1, .bool a0_2] 23 (0, 0))) ∧ Aside0 (Below w.heap.size w wc))
                case first => as_aux_lemma =>
                 have H := HC48.out
                 clear HC48
                 by_cases c55 : (t307.length : Int) = (l1.length : Int)
                 ·rw [if_pos c55] at H
                  have c55b0 : ((t307.length : Int) == (l1.length : Int)) = true := beq_iff_eq.mpr c55
                  have c55b1 : ((t307.length : Int) != (l1.length : Int)) = false := bne_eq_false_iff_eq.mpr c55
                  have c55b2 : (t307.length == l1.length) = true := by first | simpa using c55 | (simp at c55 ⊢; omega)
                  clear c55
                  (first | rw [c55b0] | (simp only [i64_w, i32_w]; rw [c55b0]) | skip)
                  have H' := Aside0.mk H
                  clear H
                  go_wp2
                  go_meet
                  case rel => exact ⟨_, H', ⟨by have := HJ4.out; have := HJ8.out; have := HJ14.out; have := HJ17.out; have := HJ22.out; have := HJ27.out; have := HK7.out; first | omega | exact Nat.le_refl _⟩, ⟨by (with_reducible repeat (first | apply Kd.R_alloc | apply Kd.R_drewN | apply Kd.R_drew)); exact HO_7.out⟩, ⟨by (with_reducible repeat (first | apply Kd.R_alloc | apply Kd.R_drewN | apply Kd.R_drew)); exact Kd.R_mono HO309.out (fun _ hk => trivial)⟩, ⟨by (with_reducible repeat (first | refine blk_drewN ?_ _ | refine blk_drew ?_ | refine blk_alloc ?_ _)); exact BK291.out⟩, ⟨by repeat (first | (with_reducible first | exact HB.out | apply below_alloc | apply pw_below_drewN | apply below_drew1 | refine below_set ?_ GE291.out) | exact HB.out)⟩⟩
                 ·rw [if_neg c55] at H
                  have c55b0 : ((t307.length : Int) == (l1.length : Int)) = false := beq_eq_false_iff_ne.mpr c55
                  have c55b1 : ((t307.length : Int) != (l1.length : Int)) = true := bne_iff_ne.mpr c55
                  have c55b2 : (t307.length == l1.length) = false := by first | simpa using c55 | (simp at c55 ⊢; omega)
                  (first | rw [c55b0] | (simp only [i64_w, i32_w]; rw [c55b0]) | skip)
                  obtain rfl := Option.some.inj H
                  go_wp2
                  go_ret
                  exact ⟨by first | rfl | (simp [errW_none, errW_some] <;> rfl) | (simp [*, errW_none, errW_some] <;> rfl), by repeat (first | (with_reducible first | exact HB.out | apply below_alloc | apply pw_below_drewN | apply below_drew1 | refine below_set ?_ GE291.out) | exact HB.out)⟩
                case rest =>
                 clear HC48
                 try clear c1
                 try clear c2
                 try clear p2
                 try clear q2
                 try clear hx2
                 try clear c3
                 try clear p3
                 try clear q3
                 try clear hx3
                 try clear c5
                 try clear p6
                 try clear c16
                 try clear c25
                 try clear p29
                 try clear q29
                 try clear hx29
                 try clear c30
                 try clear c30b0
                 try clear p30
                 try clear q30
                 try clear hx30
                 try clear c31
                 try clear c32
                 try clear c33
                 try clear c33b0
                 try clear c33b1
                 try clear c34
                 try clear c35
                 try clear c55
                 try clear c55b0
                 try clear c55b1
                 try clear c55b2
                 try clear hx299_0
                 try clear hx299_1
                 try clear hx299_2
                 try clear hx299_3
                 try clear hx299_4
                 try clear hx300_0
                 try clear hx300_1
                 try clear hx300_2
                 try clear hx300_3
                 try clear hx300_4
                 try clear p299
                 try clear p300
                 try clear q299
                 try clear q300
                 obtain ⟨kq, HA, HJ47, HO_7, HO_10, BK291, HB⟩ := hcut
                 cases kq with
                 | zero => exact absurd HA.out (by simp [signalbenchlaw21_SyncRoundTrips.j7])
                 | succ kj47 =>
                  have H := HA.out
                  clear HA
                  simp only [signalbenchlaw21_SyncRoundTrips.j7] at H
                  have H' := Aside0.mk H
                  clear H
                  go_wp2
                  go_loopg [11, 12] kj47 (fun kq v11 v12 w' => ∃ (x11_9 : Int) (x12_9 : Int), v11 = .int .i64 x11_9 ∧ v12 = .int .i64 x12_9 ∧ Aside0 (signalbenchlaw21_SyncRoundTrips.l1 kq l1 a2 t294 t307 x11_9 x12_9 = some r) ∧ Aside0 (kq ≤ kj47) ∧ Aside0 (Kd.R k46 46 w' w.heap.size (fun _ => True) (.slice Ao49 t294.length co49) t294) ∧ Aside0 (Kd.R k32 32 w' w.heap.size (fun _ => True) (.slice Ao54 t307.length co54) t307) ∧ Aside0 (w'.heap[gb291]? = some (.cells #[.string a0_0, .int .i64 a0_1, .bool a0_2] 23 (0, 0))) ∧ Aside0 (Below w.heap.size w w'))
                  case atStart => exact ⟨(0), (0), (by first | rfl | (simp; done) | (simp [*]; done)), (by first | rfl | (simp; done) | (simp [*]; done)), H', ⟨Nat.le_refl _⟩, ⟨by (with_reducible repeat (first | apply Kd.R_alloc | apply Kd.R_drewN | apply Kd.R_drew)); exact HO_7.out⟩, ⟨by (with_reducible repeat (first | apply Kd.R_alloc | apply Kd.R_drewN | apply Kd.R_drew)); exact HO_10.out⟩, ⟨by (with_reducible repeat (first | refine blk_drewN ?_ _ | refine blk_drew ?_ | refine blk_alloc ?_ _)); exact BK291.out⟩, ⟨by repeat (first | (with_reducible first | exact HB.out | apply below_alloc | apply pw_below_drewN | apply below_drew1 | refine below_set ?_ GE291.out) | exact HB.out)⟩⟩
                  case round => as_aux_lemma =>
                   clear H'
                   try clear c1
                   try clear c2
                   try clear p2
                   try clear q2
                   try clear hx2
                   try clear c3
                   try clear p3
                   try clear q3
                   try clear hx3
                   try clear c5
                   try clear p6
                   try clear c16
                   try clear c25
                   try clear p29
                   try clear q29
                   try clear hx29
                   try clear c30
                   try clear c30b0
                   try clear p30
                   try clear q30
                   try clear hx30
                   try clear c31
                   try clear c32
                   try clear c33
                   try clear c33b0
                   try clear c33b1
                   try clear c34
                   try clear c35
                   try clear c55
                   try clear c55b0
                   try clear c55b1
                   try clear c55b2
                   try clear hx299_0
                   try clear hx299_1
                   try clear hx299_2
                   try clear hx299_3
                   try clear hx299_4
                   try clear hx300_0
                   try clear hx300_1
                   try clear hx300_2
                   try clear hx300_3
                   try clear hx300_4
                   try clear p2
                   try clear p29
                   try clear p299
                   try clear p3
                   try clear p30
                   try clear p300
                   try clear p6
                   try clear q2
                   try clear q29
                   try clear q299
                   try clear q3
                   try clear q30
                   try clear q300
                   obtain ⟨x11_9, x12_9, rfl, rfl, HA, HK9, HO_7, HO_10, BK291, HB⟩ := hrel
                   cases gk with
                   | zero => exact absurd HA.out (by simp [signalbenchlaw21_SyncRoundTrips.l1])
                   | succ k9 =>
                    have H := HA.out
                    clear HA
                    simp only [signalbenchlaw21_SyncRoundTrips.l1] at H
                    by_cases c56 : x12_9 < (t307.length : Int)
                    ·rw [if_pos c56] at H
                     have c56b0 : decide (x12_9 < (t307.length : Int)) = true := decide_eq_true c56
                     clear c56
                     by_cases c57 : 0 ≤ x12_9
                     ·rw [if_pos c57] at H
                      have c57b0 : decide (0 ≤ x12_9) = true := decide_eq_true c57
                      clear c57
                      by_cases c58 : x12_9 < (l1.length : Int)
                      ·rw [if_pos c58] at H
                       have c58b0 : decide (x12_9 < (l1.length : Int)) = true := decide_eq_true c58
                       clear c58
                       by_cases c59 : x12_9 < (t294.length : Int)
                       ·rw [if_pos c59] at H
                        have c59b0 : decide (x12_9 < (t294.length : Int)) = true := decide_eq_true c59
                        clear c59
                        by_cases c60 : (!(((rd_T32 t307 x12_9).f0) == 5) || (!(((rd_T32 t307 x12_9).f1) == (wrap64 (x11_9 + ((rd_T46 l1 x12_9).f0)))) || (!(((rd_T32 t307 x12_9).f2) == (wrap64 ((wrap64 (x11_9 + ((rd_T46 l1 x12_9).f0))) + (wrap64 (a2 * (((rd_T46 t294 x12_9).f3).size : Int)))))) || (!(((rd_T32 t307 x12_9).f3) == 0) || (!(((rd_T32 t307 x12_9).f4) == 0) || (!((((rd_T32 t307 x12_9).f5).toList) == (((rd_T46 l1 x12_9).f3).toList)) || (!(((rd_T32 t307 x12_9).f6) == 0)))))))) = true
                        ·rw [if_pos c60] at H
                         have c60b0 : (!(((rd_T32 t307 x12_9).f0) == 5) || (!(((rd_T32 t307 x12_9).f1) == (wrap64 (x11_9 + ((rd_T46 l1 x12_9).f0)))) || (!(((rd_T32 t307 x12_9).f2) == (wrap64 ((wrap64 (x11_9 + ((rd_T46 l1 x12_9).f0))) + (wrap64 (a2 * (((rd_T46 t294 x12_9).f3).size : Int)))))) || (!(((rd_T32 t307 x12_9).f3) == 0) || (!(((rd_T32 t307 x12_9).f4) == 0) || (!((((rd_T32 t307 x12_9).f5).toList) == (((rd_T46 l1 x12_9).f3).toList)) || (!(((rd_T32 t307 x12_9).f6) == 0)))))))) = true := c60
                         (try (have c60b1 : ((rd_T32 t307 x12_9).f0 = 5 ∧ (rd_T32 t307 x12_9).f1 = (wrap64 (x11_9 + ((rd_T46 l1 x12_9).f0))) ∧ (rd_T32 t307 x12_9).f2 = (wrap64 ((wrap64 (x11_9 + ((rd_T46 l1 x12_9).f0))) + (wrap64 (a2 * (((rd_T46 t294 x12_9).f3).size : Int))))) ∧ (rd_T32 t307 x12_9).f3 = 0 ∧ (rd_T32 t307 x12_9).f4 = 0 ∧ ((rd_T32 t307 x12_9).f5).toList = (((rd_T46 l1 x12_9).f3).toList) ∧ (rd_T32 t307 x12_9).f6 = 0) = False := eq_false (by intro h_; have e_ := c60; simp [h_] at e_)))
                         clear c60
                         obtain rfl := Option.some.inj H
                         have p310 : 0 ≤ (x12_9 : Int) := of_decide_eq_true (by first | (with_reducible assumption) | assumption)
                         have q310 : x12_9 < (l1.length : Int) := of_decide_eq_true (by first | (with_reducible assumption) | assumption)
                         obtain ⟨ad310, e310, hx310_0, hx310_1, hx310_2, hx310_3, hx310_4⟩ := at_T46 HR1.out x12_9 p310 q310
                         cases e310
                         replace hx310_0 := (HB.out.cell (World.block_lt_of_cell? w _ hx310_0)).trans hx310_0
                         replace hx310_1 := (HB.out.cell (World.block_lt_of_cell? w _ hx310_1)).trans hx310_1
                         replace hx310_2 := (HB.out.cell (World.block_lt_of_cell? w _ hx310_2)).trans hx310_2
                         replace hx310_3 := (HB.out.cell (World.block_lt_of_cell? w _ hx310_3)).trans hx310_3
                         replace hx310_4 := (HB.out.cell (World.block_lt_of_cell? w _ hx310_4)).trans hx310_4
                         replace p310 := eq_true p310
                         replace q310 := eq_true q310
                         have p311 : 0 ≤ (x12_9 : Int) := of_decide_eq_true (by first | (with_reducible assumption) | assumption)
                         have q311 : x12_9 < (t294.length : Int) := of_decide_eq_true (by first | (with_reducible assumption) | assumption)
                         obtain ⟨ad311, e311, hx311_0, hx311_1, hx311_2, hx311_3, hx311_4⟩ := at_T46 (Kd.R_reads' HO_7.out).2.2 x12_9 p311 q311
                         cases e311
                         replace p311 := eq_true p311
                         replace q311 := eq_true q311
                         try go_wp2
                         have n0_ := Aside0.mk (Kd.R_drew HO_7.out)
                         have n1_ := Aside0.mk (Kd.R_drew HO_10.out)
                         have n2_ := Aside0.mk (blk_drew BK291.out)
                         have n3_ := Aside0.mk (below_drew1 HB.out)
                         clear HO_7
                         clear HO_10
                         clear BK291
                         clear HB
                         have HO_7 := n0_
                         have HO_10 := n1_
                         have BK291 := n2_
                         have HB := n3_
                         clear n0_ n1_ n2_ n3_
                         have p312 : 0 ≤ (x12_9 : Int) := of_decide_eq_true (by first | (with_reducible assumption) | assumption)
                         have q312 : x12_9 < (t307.length : Int) := of_decide_eq_true (by first | (with_reducible assumption) | assumption)
                         obtain ⟨ad312, e312, hx312_0, hx312_1, hx312_2, hx312_3, hx312_4, hx312_5, hx312_6⟩ := at_T32 (Kd.R_reads' HO_10.out).2.2 x12_9 p312 q312
                         cases e312
                         replace p312 := eq_true p312
                         replace q312 := eq_true q312
                         have p313 : 0 ≤ (x12_9 : Int) := of_decide_eq_true (by first | (with_reducible assumption) | assumption)
                         have q313 : x12_9 < (l1.length : Int) := of_decide_eq_true (by first | (with_reducible assumption) | assumption)
                         obtain ⟨ad313, e313, hx313_0, hx313_1, hx313_2, hx313_3, hx313_4⟩ := at_T46 HR1.out x12_9 p313 q313
                         have hw313_4 := hx313_4
                         have hw313_3 := hx313_3
                         have hw313_2 := hx313_2
                         have hw313_1 := hx313_1
                         have hw313_0 := hx313_0
                         obtain rfl : ad310 = ad313 := (by injection e313)
                         replace hx313_0 := (HB.out.cell (World.block_lt_of_cell? w _ hx313_0)).trans hx313_0
                         replace hx313_1 := (HB.out.cell (World.block_lt_of_cell? w _ hx313_1)).trans hx313_1
                         replace hx313_2 := (HB.out.cell (World.block_lt_of_cell? w _ hx313_2)).trans hx313_2
                         replace hx313_3 := (HB.out.cell (World.block_lt_of_cell? w _ hx313_3)).trans hx313_3
                         replace hx313_4 := (HB.out.cell (World.block_lt_of_cell? w _ hx313_4)).trans hx313_4
                         replace p313 := eq_true p313
                         replace q313 := eq_true q313
                         refine start_ (n := 13) (S := fun w' => w'.cell? (ad312.add ((x12_9).toNat * 7)) = some (.int .i64 ((rd_T32 t307 x12_9).f0)) ∧ w'.cell? ⟨(ad312.add ((x12_9).toNat * 7)).block, (ad312.add ((x12_9).toNat * 7)).off + 1, none⟩ = some (.int .i64 ((rd_T32 t307 x12_9).f1)) ∧ w'.cell? ⟨(ad312.add ((x12_9).toNat * 7)).block, (ad312.add ((x12_9).toNat * 7)).off + 2, none⟩ = some (.int .i64 ((rd_T32 t307 x12_9).f2)) ∧ w'.cell? ⟨(ad312.add ((x12_9).toNat * 7)).block, (ad312.add ((x12_9).toNat * 7)).off + 3, none⟩ = some (.int .i64 ((rd_T32 t307 x12_9).f3)) ∧ w'.cell? ⟨(ad312.add ((x12_9).toNat * 7)).block, (ad312.add ((x12_9).toNat * 7)).off + 4, none⟩ = some (.int .i64 ((rd_T32 t307 x12_9).f4)) ∧ w'.cell? ⟨(ad312.add ((x12_9).toNat * 7)).block, (ad312.add ((x12_9).toNat * 7)).off + 5, none⟩ = some (.string ((rd_T32 t307 x12_9).f5)) ∧ w'.cell? ⟨(ad312.add ((x12_9).toNat * 7)).block, (ad312.add ((x12_9).toNat * 7)).off + 6, none⟩ = some (.int .i64 ((rd_T32 t307 x12_9).f6)) ∧ w'.cell? (ad310.add ((x12_9).toNat * 5)) = some (.int .i64 ((rd_T46 l1 x12_9).f0)) ∧ w'.cell? ⟨(ad310.add ((x12_9).toNat * 5)).block, (ad310.add ((x12_9).toNat * 5)).off + 1, none⟩ = some (.int .i64 ((rd_T46 l1 x12_9).f1)) ∧ w'.cell? ⟨(ad310.add ((x12_9).toNat * 5)).block, (ad310.add ((x12_9).toNat * 5)).off + 2, none⟩ = some (.int .i64 ((rd_T46 l1 x12_9).f2)) ∧ w'.cell? ⟨(ad310.add ((x12_9).toNat * 5)).block, (ad310.add ((x12_9).toNat * 5)).off + 3, none⟩ = some (.string ((rd_T46 l1 x12_9).f3)) ∧ w'.cell? ⟨(ad310.add ((x12_9).toNat * 5)).block, (ad310.add ((x12_9).toNat * 5)).off + 4, none⟩ = some (.int .i64 ((rd_T46 l1 x12_9).f4))) (ds := []) #[false, false, false, false, false, false, false, false, false, false, false, false, false] (by kernel_rfl) rfl rfl ⟨hx312_0, hx312_1, hx312_2, hx312_3, hx312_4, hx312_5, hx312_6, ((HB.out.cell (World.block_lt_of_cell? w _ hw313_0)).trans hw313_0), ((HB.out.cell (World.block_lt_of_cell? w _ hw313_1)).trans hw313_1), ((HB.out.cell (World.block_lt_of_cell? w _ hw313_2)).trans hw313_2), ((HB.out.cell (World.block_lt_of_cell? w _ hw313_3)).trans hw313_3), ((HB.out.cell (World.block_lt_of_cell? w _ hw313_4)).trans hw313_4)⟩ (fun hHeld => ?_); refine with_tabW signalbenchlaw21_SyncRoundTrips.tab24 signalbenchlaw21_SyncRoundTrips.bits24 (fun HT_ HW_ => ?_)
                         generalize wr.drew = w61 at HO_7 HO_10 BK291 HB hx312_0 hx312_1 hx312_2 hx312_3 hx312_4 hx312_5 hx312_6 hx313_0 hx313_1 hx313_2 hx313_3 hx313_4 hHeld ⊢
                         refine pstep 0 (some 138) #[true, false, false, false, false, false, false, false, false, false, false, false, false] HT_.out ?_
                         refine pstep 1 (some 139) #[true, true, false, false, false, false, false, false, false, false, false, false, false] HT_.out ?_
                         refine pstep 2 (some 140) #[true, true, true, false, false, false, false, false, false, false, false, false, false] HT_.out ?_
                         refine pstep 4 (some 142) #[true, true, true, false, true, false, false, false, false, false, false, false, false] HT_.out ?_
                         refine pstep 5 (some 143) #[true, true, true, false, true, true, false, false, false, false, false, false, false] HT_.out ?_
                         refine pstep 6 (some 144) #[true, true, true, false, true, true, true, false, false, false, false, false, false] HT_.out ?_
                         refine pstep 7 (some 145) #[true, true, true, false, true, true, true, true, false, false, false, false, false] HT_.out ?_
                         refine pstep 8 (some 146) #[true, true, true, false, true, true, true, true, true, false, false, false, false] HT_.out ?_
                         refine pstep 9 (some 147) #[true, true, true, false, true, true, true, true, true, true, false, false, false] HT_.out ?_
                         refine take_ (i := 3) (N := some 141) (v := ?_) (a' := ?_) #[true, true, true, true, true, true, true, true, true, true, false, false, false] rfl rfl (take_ofW HT_.out HW_.out (by kernel_rfl)) (fun _ _ _ h => h) (Or.inl ⟨by rfl, ?_⟩) hHeld ?_ ?_
                         rotate_left
                         ·rintro w' ⟨s0, s1, s2, s3, s4, s5, s6, s7, s8, s9, s10, s11⟩
                          go_simp
                          with_reducible rfl
                         rotate_left
                         ·simp only [Act.put, nrm]
                          rfl
                         refine take_ (i := 10) (N := some 148) (v := ?_) (a' := ?_) #[true, true, true, true, true, true, true, true, true, true, true, false, false] rfl rfl (take_ofW HT_.out HW_.out (by kernel_rfl)) (fun _ _ _ h => h) (Or.inl ⟨by rfl, ?_⟩) hHeld ?_ ?_
                         rotate_left
                         ·rintro w' ⟨s0, s1, s2, s3, s4, s5, s6, s7, s8, s9, s10, s11⟩
                          go_simp
                          with_reducible rfl
                         rotate_left
                         ·simp only [Act.put, nrm]
                          rfl
                         refine pstep 11 (some 149) #[true, true, true, true, true, true, true, true, true, true, true, true, false] HT_.out ?_
                         refine pstep 12 (some 150) #[true, true, true, true, true, true, true, true, true, true, true, true, true] HT_.out ?_
                         refine done_ (done_of HT_.out (by kernel_rfl)) ?_
                         try go_wp2
                         go_ret
                         exact ⟨by first | rfl | (simp [errW_none, errW_some] <;> rfl) | (simp [*, errW_none, errW_some] <;> rfl), by repeat (first | (with_reducible first | exact HB.out | apply below_alloc | apply pw_below_drewN | apply below_drew1 | refine below_set ?_ GE291.out) | exact HB.out)⟩
                        ·rw [if_neg c60] at H
                         have c60b0 : (!(((rd_T32 t307 x12_9).f0) == 5) || (!(((rd_T32 t307 x12_9).f1) == (wrap64 (x11_9 + ((rd_T46 l1 x12_9).f0)))) || (!(((rd_T32 t307 x12_9).f2) == (wrap64 ((wrap64 (x11_9 + ((rd_T46 l1 x12_9).f0))) + (wrap64 (a2 * (((rd_T46 t294 x12_9).f3).size : Int)))))) || (!(((rd_T32 t307 x12_9).f3) == 0) || (!(((rd_T32 t307 x12_9).f4) == 0) || (!((((rd_T32 t307 x12_9).f5).toList) == (((rd_T46 l1 x12_9).f3).toList)) || (!(((rd_T32 t307 x12_9).f6) == 0)))))))) = false := by simpa using c60
                         (try (have c60b1 : ((rd_T32 t307 x12_9).f0 = 5 ∧ (rd_T32 t307 x12_9).f1 = (wrap64 (x11_9 + ((rd_T46 l1 x12_9).f0))) ∧ (rd_T32 t307 x12_9).f2 = (wrap64 ((wrap64 (x11_9 + ((rd_T46 l1 x12_9).f0))) + (wrap64 (a2 * (((rd_T46 t294 x12_9).f3).size : Int))))) ∧ (rd_T32 t307 x12_9).f3 = 0 ∧ (rd_T32 t307 x12_9).f4 = 0 ∧ ((rd_T32 t307 x12_9).f5).toList = (((rd_T46 l1 x12_9).f3).toList) ∧ (rd_T32 t307 x12_9).f6 = 0) = True := eq_true (by simpa using c60)))
                         clear c60
                         have H' := Aside0.mk H
                         clear H
                         have p310 : 0 ≤ (x12_9 : Int) := of_decide_eq_true (by first | (with_reducible assumption) | assumption)
                         have q310 : x12_9 < (l1.length : Int) := of_decide_eq_true (by first | (with_reducible assumption) | assumption)
                         obtain ⟨ad310, e310, hx310_0, hx310_1, hx310_2, hx310_3, hx310_4⟩ := at_T46 HR1.out x12_9 p310 q310
                         cases e310
                         replace hx310_0 := (HB.out.cell (World.block_lt_of_cell? w _ hx310_0)).trans hx310_0
                         replace hx310_1 := (HB.out.cell (World.block_lt_of_cell? w _ hx310_1)).trans hx310_1
                         replace hx310_2 := (HB.out.cell (World.block_lt_of_cell? w _ hx310_2)).trans hx310_2
                         replace hx310_3 := (HB.out.cell (World.block_lt_of_cell? w _ hx310_3)).trans hx310_3
                         replace hx310_4 := (HB.out.cell (World.block_lt_of_cell? w _ hx310_4)).trans hx310_4
                         replace p310 := eq_true p310
                         replace q310 := eq_true q310
                         have p311 : 0 ≤ (x12_9 : Int) := of_decide_eq_true (by first | (with_reducible assumption) | assumption)
                         have q311 : x12_9 < (t294.length : Int) := of_decide_eq_true (by first | (with_reducible assumption) | assumption)
                         obtain ⟨ad311, e311, hx311_0, hx311_1, hx311_2, hx311_3, hx311_4⟩ := at_T46 (Kd.R_reads' HO_7.out).2.2 x12_9 p311 q311
                         cases e311
                         replace p311 := eq_true p311
                         replace q311 := eq_true q311
                         try go_wp2
                         have n0_ := Aside0.mk (Kd.R_drew HO_7.out)
                         have n1_ := Aside0.mk (Kd.R_drew HO_10.out)
                         have n2_ := Aside0.mk (blk_drew BK291.out)
                         have n3_ := Aside0.mk (below_drew1 HB.out)
                         clear HO_7
                         clear HO_10
                         clear BK291
                         clear HB
                         have HO_7 := n0_
                         have HO_10 := n1_
                         have BK291 := n2_
                         have HB := n3_
                         clear n0_ n1_ n2_ n3_
                         have p312 : 0 ≤ (x12_9 : Int) := of_decide_eq_true (by first | (with_reducible assumption) | assumption)
                         have q312 : x12_9 < (t307.length : Int) := of_decide_eq_true (by first | (with_reducible assumption) | assumption)
                         obtain ⟨ad312, e312, hx312_0, hx312_1, hx312_2, hx312_3, hx312_4, hx312_5, hx312_6⟩ := at_T32 (Kd.R_reads' HO_10.out).2.2 x12_9 p312 q312
                         cases e312
                         replace p312 := eq_true p312
                         replace q312 := eq_true q312
                         have p313 : 0 ≤ (x12_9 : Int) := of_decide_eq_true (by first | (with_reducible assumption) | assumption)
                         have q313 : x12_9 < (l1.length : Int) := of_decide_eq_true (by first | (with_reducible assumption) | assumption)
                         obtain ⟨ad313, e313, hx313_0, hx313_1, hx313_2, hx313_3, hx313_4⟩ := at_T46 HR1.out x12_9 p313 q313
                         have hw313_4 := hx313_4
                         have hw313_3 := hx313_3
                         have hw313_2 := hx313_2
                         have hw313_1 := hx313_1
                         have hw313_0 := hx313_0
                         obtain rfl : ad310 = ad313 := (by injection e313)
                         replace hx313_0 := (HB.out.cell (World.block_lt_of_cell? w _ hx313_0)).trans hx313_0
                         replace hx313_1 := (HB.out.cell (World.block_lt_of_cell? w _ hx313_1)).trans hx313_1
                         replace hx313_2 := (HB.out.cell (World.block_lt_of_cell? w _ hx313_2)).trans hx313_2
                         replace hx313_3 := (HB.out.cell (World.block_lt_of_cell? w _ hx313_3)).trans hx313_3
                         replace hx313_4 := (HB.out.cell (World.block_lt_of_cell? w _ hx313_4)).trans hx313_4
                         replace p313 := eq_true p313
                         replace q313 := eq_true q313
                         refine start_ (n := 13) (S := fun w' => w'.cell? (ad312.add ((x12_9).toNat * 7)) = some (.int .i64 ((rd_T32 t307 x12_9).f0)) ∧ w'.cell? ⟨(ad312.add ((x12_9).toNat * 7)).block, (ad312.add ((x12_9).toNat * 7)).off + 1, none⟩ = some (.int .i64 ((rd_T32 t307 x12_9).f1)) ∧ w'.cell? ⟨(ad312.add ((x12_9).toNat * 7)).block, (ad312.add ((x12_9).toNat * 7)).off + 2, none⟩ = some (.int .i64 ((rd_T32 t307 x12_9).f2)) ∧ w'.cell? ⟨(ad312.add ((x12_9).toNat * 7)).block, (ad312.add ((x12_9).toNat * 7)).off + 3, none⟩ = some (.int .i64 ((rd_T32 t307 x12_9).f3)) ∧ w'.cell? ⟨(ad312.add ((x12_9).toNat * 7)).block, (ad312.add ((x12_9).toNat * 7)).off + 4, none⟩ = some (.int .i64 ((rd_T32 t307 x12_9).f4)) ∧ w'.cell? ⟨(ad312.add ((x12_9).toNat * 7)).block, (ad312.add ((x12_9).toNat * 7)).off + 5, none⟩ = some (.string ((rd_T32 t307 x12_9).f5)) ∧ w'.cell? ⟨(ad312.add ((x12_9).toNat * 7)).block, (ad312.add ((x12_9).toNat * 7)).off + 6, none⟩ = some (.int .i64 ((rd_T32 t307 x12_9).f6)) ∧ w'.cell? (ad310.add ((x12_9).toNat * 5)) = some (.int .i64 ((rd_T46 l1 x12_9).f0)) ∧ w'.cell? ⟨(ad310.add ((x12_9).toNat * 5)).block, (ad310.add ((x12_9).toNat * 5)).off + 1, none⟩ = some (.int .i64 ((rd_T46 l1 x12_9).f1)) ∧ w'.cell? ⟨(ad310.add ((x12_9).toNat * 5)).block, (ad310.add ((x12_9).toNat * 5)).off + 2, none⟩ = some (.int .i64 ((rd_T46 l1 x12_9).f2)) ∧ w'.cell? ⟨(ad310.add ((x12_9).toNat * 5)).block, (ad310.add ((x12_9).toNat * 5)).off + 3, none⟩ = some (.string ((rd_T46 l1 x12_9).f3)) ∧ w'.cell? ⟨(ad310.add ((x12_9).toNat * 5)).block, (ad310.add ((x12_9).toNat * 5)).off + 4, none⟩ = some (.int .i64 ((rd_T46 l1 x12_9).f4))) (ds := []) #[false, false, false, false, false, false, false, false, false, false, false, false, false] (by kernel_rfl) rfl rfl ⟨hx312_0, hx312_1, hx312_2, hx312_3, hx312_4, hx312_5, hx312_6, ((HB.out.cell (World.block_lt_of_cell? w _ hw313_0)).trans hw313_0), ((HB.out.cell (World.block_lt_of_cell? w _ hw313_1)).trans hw313_1), ((HB.out.cell (World.block_lt_of_cell? w _ hw313_2)).trans hw313_2), ((HB.out.cell (World.block_lt_of_cell? w _ hw313_3)).trans hw313_3), ((HB.out.cell (World.block_lt_of_cell? w _ hw313_4)).trans hw313_4)⟩ (fun hHeld => ?_); refine with_tabW signalbenchlaw21_SyncRoundTrips.tab24 signalbenchlaw21_SyncRoundTrips.bits24 (fun HT_ HW_ => ?_)
                         generalize wr.drew = w62 at HO_7 HO_10 BK291 HB hx312_0 hx312_1 hx312_2 hx312_3 hx312_4 hx312_5 hx312_6 hx313_0 hx313_1 hx313_2 hx313_3 hx313_4 hHeld ⊢
                         refine pstep 0 (some 138) #[true, false, false, false, false, false, false, false, false, false, false, false, false] HT_.out ?_
                         refine pstep 1 (some 139) #[true, true, false, false, false, false, false, false, false, false, false, false, false] HT_.out ?_
                         refine pstep 2 (some 140) #[true, true, true, false, false, false, false, false, false, false, false, false, false] HT_.out ?_
                         refine pstep 4 (some 142) #[true, true, true, false, true, false, false, false, false, false, false, false, false] HT_.out ?_
                         refine pstep 5 (some 143) #[true, true, true, false, true, true, false, false, false, false, false, false, false] HT_.out ?_
                         refine pstep 6 (some 144) #[true, true, true, false, true, true, true, false, false, false, false, false, false] HT_.out ?_
                         refine pstep 7 (some 145) #[true, true, true, false, true, true, true, true, false, false, false, false, false] HT_.out ?_
                         refine pstep 8 (some 146) #[true, true, true, false, true, true, true, true, true, false, false, false, false] HT_.out ?_
                         refine pstep 9 (some 147) #[true, true, true, false, true, true, true, true, true, true, false, false, false] HT_.out ?_
                         refine take_ (i := 3) (N := some 141) (v := ?_) (a' := ?_) #[true, true, true, true, true, true, true, true, true, true, false, false, false] rfl rfl (take_ofW HT_.out HW_.out (by kernel_rfl)) (fun _ _ _ h => h) (Or.inl ⟨by rfl, ?_⟩) hHeld ?_ ?_
                         rotate_left
                         ·rintro w' ⟨s0, s1, s2, s3, s4, s5, s6, s7, s8, s9, s10, s11⟩
                          go_simp
                          with_reducible rfl
                         rotate_left
                         ·simp only [Act.put, nrm]
                          rfl
                         refine take_ (i := 10) (N := some 148) (v := ?_) (a' := ?_) #[true, true, true, true, true, true, true, true, true, true, true, false, false] rfl rfl (take_ofW HT_.out HW_.out (by kernel_rfl)) (fun _ _ _ h => h) (Or.inl ⟨by rfl, ?_⟩) hHeld ?_ ?_
                         rotate_left
                         ·rintro w' ⟨s0, s1, s2, s3, s4, s5, s6, s7, s8, s9, s10, s11⟩
                          go_simp
                          with_reducible rfl
                         rotate_left
                         ·simp only [Act.put, nrm]
                          rfl
                         refine pstep 11 (some 149) #[true, true, true, true, true, true, true, true, true, true, true, true, false] HT_.out ?_
                         refine pstep 12 (some 150) #[true, true, true, true, true, true, true, true, true, true, true, true, true] HT_.out ?_
                         refine done_ (done_of HT_.out (by kernel_rfl)) ?_
                         try go_wp2
                         go_roundg k9
                         case measure => have := HJ4.out; have := HJ8.out; have := HJ14.out; have := HJ17.out; have := HJ22.out; have := HJ27.out; have := HK7.out; have := HJ47.out; have := HK9.out; omega
                         case rel => exact ⟨(wrap64 ((wrap64 (x11_9 + ((rd_T46 l1 x12_9).f0))) + (wrap64 (a2 * (((rd_T46 t294 x12_9).f3).size : Int))))), (wrap64 (x12_9 + 1)), (by first | rfl | (simp; done) | (simp [*]; done)), (by first | rfl | (simp; done) | (simp [*]; done)), H', ⟨by have := HJ4.out; have := HJ8.out; have := HJ14.out; have := HJ17.out; have := HJ22.out; have := HJ27.out; have := HK7.out; have := HJ47.out; have := HK9.out; omega⟩, ⟨by (with_reducible repeat (first | apply Kd.R_alloc | apply Kd.R_drewN | apply Kd.R_drew)); exact HO_7.out⟩, ⟨by (with_reducible repeat (first | apply Kd.R_alloc | apply Kd.R_drewN | apply Kd.R_drew)); exact HO_10.out⟩, ⟨by (with_reducible repeat (first | refine blk_drewN ?_ _ | refine blk_drew ?_ | refine blk_alloc ?_ _)); exact BK291.out⟩, ⟨by repeat (first | (with_reducible first | exact HB.out | apply below_alloc | apply pw_below_drewN | apply below_drew1 | refine below_set ?_ GE291.out) | exact HB.out)⟩⟩
                       ·rw [if_neg c59] at H
                        exact absurd H (by simp)
                      ·rw [if_neg c58] at H
                       exact absurd H (by simp)
                     ·rw [if_neg c57] at H
                      exact absurd H (by simp)
                    ·rw [if_neg c56] at H
                     have c56b0 : decide (x12_9 < (t307.length : Int)) = false := decide_eq_false c56
                     clear c56
                     obtain rfl := Option.some.inj H
                     go_wp2
                     go_ret
                     exact ⟨by first | rfl | (simp [errW_none, errW_some] <;> rfl) | (simp [*, errW_none, errW_some] <;> rfl), by repeat (first | (with_reducible first | exact HB.out | apply below_alloc | apply pw_below_drewN | apply below_drew1 | refine below_set ?_ GE291.out) | exact HB.out)⟩

/-- THE ONE PURE STATEMENT of signalbenchlaw21_SyncRoundTrips: yours. -/
def signalbenchlaw21_SyncRoundTrips.Pure : Prop := ∀ (a0_0 : ByteArray) (a0_1 : Int) (a0_2 : Bool) (l1 : List (S46)) (a2 : Int), a0_0.size ≤ 140737488351232 → (Lit.int .i64 a0_1).wf = true → l1.length ≤ maxLen → l1.length * 48 ≤ 140737488351232 → (∀ x ∈ l1, (Lit.int .i64 x.f0).wf = true ∧ (Lit.int .i64 x.f1).wf = true ∧ (Lit.int .i64 x.f2).wf = true ∧ x.f3.size ≤ 140737488351232 ∧ (Lit.int .i64 x.f4).wf = true) → (Lit.int .i64 a2).wf = true → ∃ k, signalbenchlaw21_SyncRoundTrips.f k a0_0 a0_1 a0_2 l1 a2 = some true
theorem signalbenchlaw21_SyncRoundTrips.walk (P : signalbenchlaw21_SyncRoundTrips.Pure) (a0_0 : ByteArray) (a0_1 : Int) (a0_2 : Bool) (A1 : Option Addr) (c1 : Nat) (l1 : List (S46)) (a2 : Int) (w : World) (hr1 : Kd.C k46 w A1 l1.length l1) (hc1 : l1.length ≤ c1) (w0_ : a0_0.size ≤ 140737488351232) (w1_ : (Lit.int .i64 a0_1).wf = true) (w2_ : l1.length ≤ maxLen) (w3_ : l1.length * 48 ≤ 140737488351232) (w4_ : (∀ x ∈ l1, (Lit.int .i64 x.f0).wf = true ∧ (Lit.int .i64 x.f1).wf = true ∧ (Lit.int .i64 x.f2).wf = true ∧ x.f3.size ≤ 140737488351232 ∧ (Lit.int .i64 x.f4).wf = true)) (w5_ : (Lit.int .i64 a2).wf = true) :
  Calls Try.prog 5 #[.agg #[.string a0_0, .int .i64 a0_1, .bool a0_2], .slice A1 l1.length c1, .int .i64 a2] w fun e w' => e = .returned (.bool true) ∧ Below w.heap.size w w' := by
 obtain ⟨k, h⟩ := P a0_0 a0_1 a0_2 l1 a2 w0_ w1_ w2_ w3_ w4_ w5_
 refine (signalbenchlaw21_SyncRoundTrips.calls k a0_0 a0_1 a0_2 A1 c1 l1 a2 true w hr1 hc1 h).mono ?_
 rintro e w' ⟨rfl, hd⟩
 exact ⟨rfl, hd⟩

end Go.Proofs.Ytbggkaofkohecaa.PSyncRoundTrips
