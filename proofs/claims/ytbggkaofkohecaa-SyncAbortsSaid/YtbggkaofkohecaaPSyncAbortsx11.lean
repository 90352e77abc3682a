-- Written by a program of this session (wip/tools/pr.py), which calls the kit's print with changes of its own.
import Derived.Test.YtbggkaofkohecaaPSyncAbortsx0
import Derived.Test.YtbggkaofkohecaaPSyncAbortsx1
import Derived.Test.YtbggkaofkohecaaPSyncAbortsx6
import Derived.Test.YtbggkaofkohecaaPSyncAbortsx8
import Derived.Test.YtbggkaofkohecaaPSyncAbortsx9
import Derived.Test.YtbggkaofkohecaaPSyncAbortsx10
namespace Go.Proofs.Ytbggkaofkohecaa.PSyncAborts
open Go.RowKit Go.Proofs.YtbggkaofkohecaaW.PrintWords Go.Proofs.YtbggkaofkohecaaW.PrintLast Go.Proofs.YtbggkaofkohecaaW.PrintMore
attribute [local go_sem] max2_int min2_int max_two min_two max_three min_three max_four min_four   -- for this text's walks alone
set_option linter.unusedVariables false
set_option linter.unusedSimpArgs false

attribute [local go_sem high] eqA32
/-! ### signalbenchlaw21_SyncAborts: function 7 -/
mutual
def signalbenchlaw21_SyncAborts.j0 : Nat → List (S46) → Int → ByteArray → Int → Bool → Option (Bool)
 | 0, _, _, _, _, _ => none
 | k + 1, x1, x2, x292000, x292001, x292002 => (signalbenchlaw21_few.f k x1).bind fun t293 => (if t293 = true then (if (x1.length : Int) < 1 then (signalbenchlaw21_SyncAborts.j1 k x1 x2 true x292000 x292001 x292002) else (if (x1.length : Int) > 50 then (signalbenchlaw21_SyncAborts.j1 k x1 x2 true x292000 x292001 x292002) else (signalbenchlaw21_SyncAborts.j1 k x1 x2 (decide ((x292000.size : Int) > 32)) x292000 x292001 x292002))) else (signalbenchlaw21_SyncAborts.j1 k x1 x2 true x292000 x292001 x292002))
def signalbenchlaw21_SyncAborts.j1 : Nat → List (S46) → Int → Bool → ByteArray → Int → Bool → Option (Bool)
 | 0, _, _, _, _, _, _ => none
 | k + 1, x1, x2, x34, x292000, x292001, x292002 => if x34 = true then (some true) else (signalbenchlaw21_SyncAborts.j2 k x1 x2 x292000 x292001 x292002)
def signalbenchlaw21_SyncAborts.j2 : Nat → List (S46) → Int → ByteArray → Int → Bool → Option (Bool)
 | 0, _, _, _, _, _ => none
 | k + 1, x1, x2, x292000, x292001, x292002 => (sync_Encode.f k x292000 x292001 x292002 x1).bind fun bt294 => (if bt294.2 = 0 then (signalbenchlaw21_SyncAborts.j3 k x1 x2 bt294.1 x292000 x292001 x292002) else (some ((bt294.1.length : Int) == 0)))
def signalbenchlaw21_SyncAborts.j3 : Nat → List (S46) → Int → List (S46) → ByteArray → Int → Bool → Option (Bool)
 | 0, _, _, _, _, _, _ => none
 | k + 1, x1, x2, x7, x292000, x292001, x292002 => (signalbenchlaw21_bitItems.f k x7).bind fun t298 => (if t298 = true then (if (x7.length : Int) = (x1.length : Int) then (if x2 < (x292000.size : Int) then (signalbenchlaw21_SyncAborts.j4 k x1 x2 x7 true x292000 x292001 x292002) else (if 0 < (x7.length : Int) then (signalbenchlaw21_SyncAborts.j4 k x1 x2 x7 (decide (x2 ≥ (((rd_T46 x7 0).f3).size : Int))) x292000 x292001 x292002) else (none))) else (signalbenchlaw21_SyncAborts.j4 k x1 x2 x7 true x292000 x292001 x292002)) else (signalbenchlaw21_SyncAborts.j4 k x1 x2 x7 true x292000 x292001 x292002))
def signalbenchlaw21_SyncAborts.j4 : Nat → List (S46) → Int → List (S46) → Bool → ByteArray → Int → Bool → Option (Bool)
 | 0, _, _, _, _, _, _, _ => none
 | k + 1, x1, x2, x7, x71, x292000, x292001, x292002 => if x71 = true then ((signalbenchlaw21_bitItems.f k x7).bind fun t300 => (if t300 = true then (some ((x7.length : Int) == (x1.length : Int))) else (some false))) else (signalbenchlaw21_SyncAborts.j5 k x1 x2 x7 x292000 x292001 x292002)
def signalbenchlaw21_SyncAborts.j5 : Nat → List (S46) → Int → List (S46) → ByteArray → Int → Bool → Option (Bool)
 | 0, _, _, _, _, _, _ => none
 | k + 1, x1, x2, x7, x292000, x292001, x292002 => (signalbenchlaw21_events.f k x7 1).bind fun t301 => (if 0 ≤ x2 then (if x2 < (t301.length : Int) then ((some (t301.set (x2 : Int).toNat (⟨(rd_T32 t301 x2).f0, (rd_T32 t301 x2).f1, (rd_T32 t301 x2).f2, (rd_T32 t301 x2).f3, (rd_T32 t301 x2).f4, (rd_T32 t301 x2).f5, 6⟩ : S32) : List (S32))).bind fun y304 => (if 0 < (x7.length : Int) then (if 0 ≤ (wrap64 (x2 + 1)) then (if (wrap64 (x2 + 1)) ≤ (((rd_T46 x7 0).f3).size : Int) then (if (x7.length : Int) > 1 then (if 1 < (x7.length : Int) then (if (((rd_T46 x7 0).f3).extract ((wrap64 (x2 + 1)) : Int).toNat ((rd_T46 x7 0).f3).size).size + ((rd_T46 x7 1).f3).size ≤ 9223372036854775807 then (signalbenchlaw21_SyncAborts.j6 k x1 x2 x7 y304 ((((rd_T46 x7 0).f3).extract ((wrap64 (x2 + 1)) : Int).toNat ((rd_T46 x7 0).f3).size) ++ ((rd_T46 x7 1).f3)) x292000 x292001 x292002) else (none)) else (none)) else (signalbenchlaw21_SyncAborts.j6 k x1 x2 x7 y304 (((rd_T46 x7 0).f3).extract ((wrap64 (x2 + 1)) : Int).toNat ((rd_T46 x7 0).f3).size) x292000 x292001 x292002)) else (none)) else (none)) else (none))) else (none)) else (none))
def signalbenchlaw21_SyncAborts.j6 : Nat → List (S46) → Int → List (S46) → List (S32) → ByteArray → ByteArray → Int → Bool → Option (Bool)
 | 0, _, _, _, _, _, _, _, _ => none
 | k + 1, x1, x2, x7, x9, x10, x292000, x292001, x292002 => signalbenchlaw21_SyncAborts.l0 k x1 x2 x7 x9 x10 0 x292000 x292001 x292002
def signalbenchlaw21_SyncAborts.l0 : Nat → List (S46) → Int → List (S46) → List (S32) → ByteArray → Int → ByteArray → Int → Bool → Option (Bool)
 | 0, _, _, _, _, _, _, _, _, _ => none
 | k + 1, x1, x2, x7, x9, x10, x11, x292000, x292001, x292002 => if 0 < (x7.length : Int) then (if x11 < (wrap64 ((wrap64 ((((rd_T46 x7 0).f3).size : Int) - x2)) - 1)) then (signalbenchlaw21_SyncAborts.j8 k x1 x2 x7 x9 x10 x11 (decide ((wrap64 (x11 + (x292000.size : Int))) ≤ (x10.size : Int))) x292000 x292001 x292002) else (signalbenchlaw21_SyncAborts.j8 k x1 x2 x7 x9 x10 x11 false x292000 x292001 x292002)) else (none)
def signalbenchlaw21_SyncAborts.j8 : Nat → List (S46) → Int → List (S46) → List (S32) → ByteArray → Int → Bool → ByteArray → Int → Bool → Option (Bool)
 | 0, _, _, _, _, _, _, _, _, _, _ => none
 | k + 1, x1, x2, x7, x9, x10, x11, x122, x292000, x292001, x292002 => if x122 = true then (if 0 ≤ x11 then (if x11 ≤ (wrap64 (x11 + (x292000.size : Int))) then (if (wrap64 (x11 + (x292000.size : Int))) ≤ (x10.size : Int) then (if (x10.extract (x11 : Int).toNat ((wrap64 (x11 + (x292000.size : Int))) : Int).toNat).toList = x292000.toList then (some true) else (signalbenchlaw21_SyncAborts.l0 k x1 x2 x7 x9 x10 (wrap64 (x11 + 1)) x292000 x292001 x292002)) else (none)) else (none)) else (none)) else ((sync_Decode.f k x292000 x292001 x292002 x9).bind fun t308 => (if (t308.length : Int) = (x1.length : Int) then (if 0 < (t308.length : Int) then (if 0 < (x1.length : Int) then (signalbenchlaw21_SyncAborts.j9 k x1 t308 (!(((rd_T32 t308 0).f0) == 5) || (!(((rd_T32 t308 0).f1) == ((rd_T46 x1 0).f0)) || (!(((rd_T32 t308 0).f2) == (wrap64 (((rd_T46 x1 0).f0) + x2))) || (!(((rd_T32 t308 0).f3) == 0) || (!(((rd_T32 t308 0).f4) == 0) || (!((((rd_T32 t308 0).f5).toList) == ([] : List UInt8)) || (!(((rd_T32 t308 0).f6) == 7))))))))) else (none)) else (none)) else (signalbenchlaw21_SyncAborts.j9 k x1 t308 true)))
def signalbenchlaw21_SyncAborts.j9 : Nat → List (S46) → List (S32) → Bool → Option (Bool)
 | 0, _, _, _ => none
 | k + 1, x1, x12, x160 => if x160 = true then (some false) else (signalbenchlaw21_SyncAborts.j10 k x1 x12)
def signalbenchlaw21_SyncAborts.j10 : Nat → List (S46) → List (S32) → Option (Bool)
 | 0, _, _ => none
 | k + 1, x1, x12 => signalbenchlaw21_SyncAborts.l1 k x1 x12 1
def signalbenchlaw21_SyncAborts.l1 : Nat → List (S46) → List (S32) → Int → Option (Bool)
 | 0, _, _, _ => none
 | k + 1, x1, x12, x13 => if x13 < (x1.length : Int) then (if 0 ≤ x13 then (if x13 < (x12.length : Int) then (if ((rd_T32 x12 x13).f5).toList = ((rd_T46 x1 x13).f3).toList then (if ((rd_T32 x12 x13).f6) = 0 then (signalbenchlaw21_SyncAborts.l1 k x1 x12 (wrap64 (x13 + 1))) else (some false)) else (some false)) else (none)) else (none)) else (some true)
end
def signalbenchlaw21_SyncAborts.f (k : Nat) (a0_0 : ByteArray) (a0_1 : Int) (a0_2 : Bool) (l1 : List (S46)) (a2 : Int) : Option (Bool) := (signalbenchlaw21_lives.f k).bind fun t292 => (if t292 = true then (signalbenchlaw21_SyncAborts.j0 k l1 a2 a0_0 a0_1 a0_2) else (some false))
theorem signalbenchlaw21_SyncAborts.mono_l : ∀ k, (∀ y0 y1 y2 y3 y4, LeO (signalbenchlaw21_SyncAborts.j0 k y0 y1 y2 y3 y4) (signalbenchlaw21_SyncAborts.j0 (k + 1) y0 y1 y2 y3 y4)) ∧ (∀ y0 y1 y2 y3 y4 y5, LeO (signalbenchlaw21_SyncAborts.j1 k y0 y1 y2 y3 y4 y5) (signalbenchlaw21_SyncAborts.j1 (k + 1) y0 y1 y2 y3 y4 y5)) ∧ (∀ y0 y1 y2 y3 y4, LeO (signalbenchlaw21_SyncAborts.j2 k y0 y1 y2 y3 y4) (signalbenchlaw21_SyncAborts.j2 (k + 1) y0 y1 y2 y3 y4)) ∧ (∀ y0 y1 y2 y3 y4 y5, LeO (signalbenchlaw21_SyncAborts.j3 k y0 y1 y2 y3 y4 y5) (signalbenchlaw21_SyncAborts.j3 (k + 1) y0 y1 y2 y3 y4 y5)) ∧ (∀ y0 y1 y2 y3 y4 y5 y6, LeO (signalbenchlaw21_SyncAborts.j4 k y0 y1 y2 y3 y4 y5 y6) (signalbenchlaw21_SyncAborts.j4 (k + 1) y0 y1 y2 y3 y4 y5 y6)) ∧ (∀ y0 y1 y2 y3 y4 y5, LeO (signalbenchlaw21_SyncAborts.j5 k y0 y1 y2 y3 y4 y5) (signalbenchlaw21_SyncAborts.j5 (k + 1) y0 y1 y2 y3 y4 y5)) ∧ (∀ y0 y1 y2 y3 y4 y5 y6 y7, LeO (signalbenchlaw21_SyncAborts.j6 k y0 y1 y2 y3 y4 y5 y6 y7) (signalbenchlaw21_SyncAborts.j6 (k + 1) y0 y1 y2 y3 y4 y5 y6 y7)) ∧ (∀ y0 y1 y2 y3 y4 y5 y6 y7 y8, LeO (signalbenchlaw21_SyncAborts.l0 k y0 y1 y2 y3 y4 y5 y6 y7 y8) (signalbenchlaw21_SyncAborts.l0 (k + 1) y0 y1 y2 y3 y4 y5 y6 y7 y8)) ∧ (∀ y0 y1 y2 y3 y4 y5 y6 y7 y8 y9, LeO (signalbenchlaw21_SyncAborts.j8 k y0 y1 y2 y3 y4 y5 y6 y7 y8 y9) (signalbenchlaw21_SyncAborts.j8 (k + 1) y0 y1 y2 y3 y4 y5 y6 y7 y8 y9)) ∧ (∀ y0 y1 y2, LeO (signalbenchlaw21_SyncAborts.j9 k y0 y1 y2) (signalbenchlaw21_SyncAborts.j9 (k + 1) y0 y1 y2)) ∧ (∀ y0 y1, LeO (signalbenchlaw21_SyncAborts.j10 k y0 y1) (signalbenchlaw21_SyncAborts.j10 (k + 1) y0 y1)) ∧ (∀ y0 y1 y2, LeO (signalbenchlaw21_SyncAborts.l1 k y0 y1 y2) (signalbenchlaw21_SyncAborts.l1 (k + 1) y0 y1 y2))
 | 0 => ⟨fun _ _ _ _ _ r h => by simp [signalbenchlaw21_SyncAborts.j0] at h, fun _ _ _ _ _ _ r h => by simp [signalbenchlaw21_SyncAborts.j1] at h, fun _ _ _ _ _ r h => by simp [signalbenchlaw21_SyncAborts.j2] at h, fun _ _ _ _ _ _ r h => by simp [signalbenchlaw21_SyncAborts.j3] at h, fun _ _ _ _ _ _ _ r h => by simp [signalbenchlaw21_SyncAborts.j4] at h, fun _ _ _ _ _ _ r h => by simp [signalbenchlaw21_SyncAborts.j5] at h, fun _ _ _ _ _ _ _ _ r h => by simp [signalbenchlaw21_SyncAborts.j6] at h, fun _ _ _ _ _ _ _ _ _ r h => by simp [signalbenchlaw21_SyncAborts.l0] at h, fun _ _ _ _ _ _ _ _ _ _ r h => by simp [signalbenchlaw21_SyncAborts.j8] at h, fun _ _ _ r h => by simp [signalbenchlaw21_SyncAborts.j9] at h, fun _ _ r h => by simp [signalbenchlaw21_SyncAborts.j10] at h, fun _ _ _ r h => by simp [signalbenchlaw21_SyncAborts.l1] at h⟩
 | k + 1 => by
  obtain ⟨ih0, ih1, ih2, ih3, ih4, ih5, ih6, ih7, ih8, ih9, ih10, ih11⟩ := signalbenchlaw21_SyncAborts.mono_l k
  refine ⟨?_, ?_, ?_, ?_, ?_, ?_, ?_, ?_, ?_, ?_, ?_, ?_⟩
  ·intro y0 y1 y2 y3 y4
   unfold signalbenchlaw21_SyncAborts.j0
   repeat' first
   | (with_reducible exact ih0 _ _ _ _ _)
   | (with_reducible exact ih1 _ _ _ _ _ _)
   | (with_reducible exact ih2 _ _ _ _ _)
   | (with_reducible exact ih3 _ _ _ _ _ _)
   | (with_reducible exact ih4 _ _ _ _ _ _ _)
   | (with_reducible exact ih5 _ _ _ _ _ _)
   | (with_reducible exact ih6 _ _ _ _ _ _ _ _)
   | (with_reducible exact ih7 _ _ _ _ _ _ _ _ _)
   | (with_reducible exact ih8 _ _ _ _ _ _ _ _ _ _)
   | (with_reducible exact ih9 _ _ _)
   | (with_reducible exact ih10 _ _)
   | (with_reducible exact ih11 _ _ _)
   | (with_reducible exact signalbenchlaw21_bitItems.mono _ _)
   | (with_reducible exact signalbenchlaw21_events.mono _ _ _)
   | (with_reducible exact signalbenchlaw21_few.mono _ _)
   | (with_reducible exact signalbenchlaw21_lives.mono _)
   | (with_reducible exact sync_Decode.mono _ _ _ _ _)
   | (with_reducible exact sync_Encode.mono _ _ _ _ _)
   | (with_reducible exact LeO.refl _)
   | (with_reducible exact LeO.none _)
   | (with_reducible refine LeO.ite ?_ ?_)
   | (with_reducible refine LeO.bind ?_ (fun _ => ?_))
   | exact ih0 _ _ _ _ _
   | exact ih1 _ _ _ _ _ _
   | exact ih2 _ _ _ _ _
   | exact ih3 _ _ _ _ _ _
   | exact ih4 _ _ _ _ _ _ _
   | exact ih5 _ _ _ _ _ _
   | exact ih6 _ _ _ _ _ _ _ _
   | exact ih7 _ _ _ _ _ _ _ _ _
   | exact ih8 _ _ _ _ _ _ _ _ _ _
   | exact ih9 _ _ _
   | exact ih10 _ _
   | exact ih11 _ _ _
   | exact signalbenchlaw21_bitItems.mono _ _
   | exact signalbenchlaw21_events.mono _ _ _
   | exact signalbenchlaw21_few.mono _ _
   | exact signalbenchlaw21_lives.mono _
   | exact sync_Decode.mono _ _ _ _ _
   | exact sync_Encode.mono _ _ _ _ _
   | exact LeO.none _
   | refine LeO.ite ?_ ?_
   | refine LeO.bind ?_ (fun _ => ?_)
  ·intro y0 y1 y2 y3 y4 y5
   unfold signalbenchlaw21_SyncAborts.j1
   repeat' first
   | (with_reducible exact ih0 _ _ _ _ _)
   | (with_reducible exact ih1 _ _ _ _ _ _)
   | (with_reducible exact ih2 _ _ _ _ _)
   | (with_reducible exact ih3 _ _ _ _ _ _)
   | (with_reducible exact ih4 _ _ _ _ _ _ _)
   | (with_reducible exact ih5 _ _ _ _ _ _)
   | (with_reducible exact ih6 _ _ _ _ _ _ _ _)
   | (with_reducible exact ih7 _ _ _ _ _ _ _ _ _)
   | (with_reducible exact ih8 _ _ _ _ _ _ _ _ _ _)
   | (with_reducible exact ih9 _ _ _)
   | (with_reducible exact ih10 _ _)
   | (with_reducible exact ih11 _ _ _)
   | (with_reducible exact signalbenchlaw21_bitItems.mono _ _)
   | (with_reducible exact signalbenchlaw21_events.mono _ _ _)
   | (with_reducible exact signalbenchlaw21_few.mono _ _)
   | (with_reducible exact signalbenchlaw21_lives.mono _)
   | (with_reducible exact sync_Decode.mono _ _ _ _ _)
   | (with_reducible exact sync_Encode.mono _ _ _ _ _)
   | (with_reducible exact LeO.refl _)
   | (with_reducible exact LeO.none _)
   | (with_reducible refine LeO.ite ?_ ?_)
   | (with_reducible refine LeO.bind ?_ (fun _ => ?_))
   | exact ih0 _ _ _ _ _
   | exact ih1 _ _ _ _ _ _
   | exact ih2 _ _ _ _ _
   | exact ih3 _ _ _ _ _ _
   | exact ih4 _ _ _ _ _ _ _
   | exact ih5 _ _ _ _ _ _
   | exact ih6 _ _ _ _ _ _ _ _
   | exact ih7 _ _ _ _ _ _ _ _ _
   | exact ih8 _ _ _ _ _ _ _ _ _ _
   | exact ih9 _ _ _
   | exact ih10 _ _
   | exact ih11 _ _ _
   | exact signalbenchlaw21_bitItems.mono _ _
   | exact signalbenchlaw21_events.mono _ _ _
   | exact signalbenchlaw21_few.mono _ _
   | exact signalbenchlaw21_lives.mono _
   | exact sync_Decode.mono _ _ _ _ _
   | exact sync_Encode.mono _ _ _ _ _
   | exact LeO.none _
   | refine LeO.ite ?_ ?_
   | refine LeO.bind ?_ (fun _ => ?_)
  ·intro y0 y1 y2 y3 y4
   unfold signalbenchlaw21_SyncAborts.j2
   repeat' first
   | (with_reducible exact ih0 _ _ _ _ _)
   | (with_reducible exact ih1 _ _ _ _ _ _)
   | (with_reducible exact ih2 _ _ _ _ _)
   | (with_reducible exact ih3 _ _ _ _ _ _)
   | (with_reducible exact ih4 _ _ _ _ _ _ _)
   | (with_reducible exact ih5 _ _ _ _ _ _)
   | (with_reducible exact ih6 _ _ _ _ _ _ _ _)
   | (with_reducible exact ih7 _ _ _ _ _ _ _ _ _)
   | (with_reducible exact ih8 _ _ _ _ _ _ _ _ _ _)
   | (with_reducible exact ih9 _ _ _)
   | (with_reducible exact ih10 _ _)
   | (with_reducible exact ih11 _ _ _)
   | (with_reducible exact signalbenchlaw21_bitItems.mono _ _)
   | (with_reducible exact signalbenchlaw21_events.mono _ _ _)
   | (with_reducible exact signalbenchlaw21_few.mono _ _)
   | (with_reducible exact signalbenchlaw21_lives.mono _)
   | (with_reducible exact sync_Decode.mono _ _ _ _ _)
   | (with_reducible exact sync_Encode.mono _ _ _ _ _)
   | (with_reducible exact LeO.refl _)
   | (with_reducible exact LeO.none _)
   | (with_reducible refine LeO.ite ?_ ?_)
   | (with_reducible refine LeO.bind ?_ (fun _ => ?_))
   | exact ih0 _ _ _ _ _
   | exact ih1 _ _ _ _ _ _
   | exact ih2 _ _ _ _ _
   | exact ih3 _ _ _ _ _ _
   | exact ih4 _ _ _ _ _ _ _
   | exact ih5 _ _ _ _ _ _
   | exact ih6 _ _ _ _ _ _ _ _
   | exact ih7 _ _ _ _ _ _ _ _ _
   | exact ih8 _ _ _ _ _ _ _ _ _ _
   | exact ih9 _ _ _
   | exact ih10 _ _
   | exact ih11 _ _ _
   | exact signalbenchlaw21_bitItems.mono _ _
   | exact signalbenchlaw21_events.mono _ _ _
   | exact signalbenchlaw21_few.mono _ _
   | exact signalbenchlaw21_lives.mono _
   | exact sync_Decode.mono _ _ _ _ _
   | exact sync_Encode.mono _ _ _ _ _
   | exact LeO.none _
   | refine LeO.ite ?_ ?_
   | refine LeO.bind ?_ (fun _ => ?_)
  ·intro y0 y1 y2 y3 y4 y5
   unfold signalbenchlaw21_SyncAborts.j3
   repeat' first
   | (with_reducible exact ih0 _ _ _ _ _)
   | (with_reducible exact ih1 _ _ _ _ _ _)
   | (with_reducible exact ih2 _ _ _ _ _)
   | (with_reducible exact ih3 _ _ _ _ _ _)
   | (with_reducible exact ih4 _ _ _ _ _ _ _)
   | (with_reducible exact ih5 _ _ _ _ _ _)
   | (with_reducible exact ih6 _ _ _ _ _ _ _ _)
   | (with_reducible exact ih7 _ _ _ _ _ _ _ _ _)
   | (with_reducible exact ih8 _ _ _ _ _ _ _ _ _ _)
   | (with_reducible exact ih9 _ _ _)
   | (with_reducible exact ih10 _ _)
   | (with_reducible exact ih11 _ _ _)
   | (with_reducible exact signalbenchlaw21_bitItems.mono _ _)
   | (with_reducible exact signalbenchlaw21_events.mono _ _ _)
   | (with_reducible exact signalbenchlaw21_few.mono _ _)
   | (with_reducible exact signalbenchlaw21_lives.mono _)
   | (with_reducible exact sync_Decode.mono _ _ _ _ _)
   | (with_reducible exact sync_Encode.mono _ _ _ _ _)
   | (with_reducible exact LeO.refl _)
   | (with_reducible exact LeO.none _)
   | (with_reducible refine LeO.ite ?_ ?_)
   | (with_reducible refine LeO.bind ?_ (fun _ => ?_))
   | exact ih0 _ _ _ _ _
   | exact ih1 _ _ _ _ _ _
   | exact ih2 _ _ _ _ _
   | exact ih3 _ _ _ _ _ _
   | exact ih4 _ _ _ _ _ _ _
   | exact ih5 _ _ _ _ _ _
   | exact ih6 _ _ _ _ _ _ _ _
   | exact ih7 _ _ _ _ _ _ _ _ _
   | exact ih8 _ _ _ _ _ _ _ _ _ _
   | exact ih9 _ _ _
   | exact ih10 _ _
   | exact ih11 _ _ _
   | exact signalbenchlaw21_bitItems.mono _ _
   | exact signalbenchlaw21_events.mono _ _ _
   | exact signalbenchlaw21_few.mono _ _
   | exact signalbenchlaw21_lives.mono _
   | exact sync_Decode.mono _ _ _ _ _
   | exact sync_Encode.mono _ _ _ _ _
   | exact LeO.none _
   | refine LeO.ite ?_ ?_
   | refine LeO.bind ?_ (fun _ => ?_)
  ·intro y0 y1 y2 y3 y4 y5 y6
   unfold signalbenchlaw21_SyncAborts.j4
   repeat' first
   | (with_reducible exact ih0 _ _ _ _ _)
   | (with_reducible exact ih1 _ _ _ _ _ _)
   | (with_reducible exact ih2 _ _ _ _ _)
   | (with_reducible exact ih3 _ _ _ _ _ _)
   | (with_reducible exact ih4 _ _ _ _ _ _ _)
   | (with_reducible exact ih5 _ _ _ _ _ _)
   | (with_reducible exact ih6 _ _ _ _ _ _ _ _)
   | (with_reducible exact ih7 _ _ _ _ _ _ _ _ _)
   | (with_reducible exact ih8 _ _ _ _ _ _ _ _ _ _)
   | (with_reducible exact ih9 _ _ _)
   | (with_reducible exact ih10 _ _)
   | (with_reducible exact ih11 _ _ _)
   | (with_reducible exact signalbenchlaw21_bitItems.mono _ _)
   | (with_reducible exact signalbenchlaw21_events.mono _ _ _)
   | (with_reducible exact signalbenchlaw21_few.mono _ _)
   | (with_reducible exact signalbenchlaw21_lives.mono _)
   | (with_reducible exact sync_Decode.mono _ _ _ _ _)
   | (with_reducible exact sync_Encode.mono _ _ _ _ _)
   | (with_reducible exact LeO.refl _)
   | (with_reducible exact LeO.none _)
   | (with_reducible refine LeO.ite ?_ ?_)
   | (with_reducible refine LeO.bind ?_ (fun _ => ?_))
   | exact ih0 _ _ _ _ _
   | exact ih1 _ _ _ _ _ _
   | exact ih2 _ _ _ _ _
   | exact ih3 _ _ _ _ _ _
   | exact ih4 _ _ _ _ _ _ _
   | exact ih5 _ _ _ _ _ _
   | exact ih6 _ _ _ _ _ _ _ _
   | exact ih7 _ _ _ _ _ _ _ _ _
   | exact ih8 _ _ _ _ _ _ _ _ _ _
   | exact ih9 _ _ _
   | exact ih10 _ _
   | exact ih11 _ _ _
   | exact signalbenchlaw21_bitItems.mono _ _
   | exact signalbenchlaw21_events.mono _ _ _
   | exact signalbenchlaw21_few.mono _ _
   | exact signalbenchlaw21_lives.mono _
   | exact sync_Decode.mono _ _ _ _ _
   | exact sync_Encode.mono _ _ _ _ _
   | exact LeO.none _
   | refine LeO.ite ?_ ?_
   | refine LeO.bind ?_ (fun _ => ?_)
  ·intro y0 y1 y2 y3 y4 y5
   unfold signalbenchlaw21_SyncAborts.j5
   repeat' first
   | (with_reducible exact ih0 _ _ _ _ _)
   | (with_reducible exact ih1 _ _ _ _ _ _)
   | (with_reducible exact ih2 _ _ _ _ _)
   | (with_reducible exact ih3 _ _ _ _ _ _)
   | (with_reducible exact ih4 _ _ _ _ _ _ _)
   | (with_reducible exact ih5 _ _ _ _ _ _)
   | (with_reducible exact ih6 _ _ _ _ _ _ _ _)
   | (with_reducible exact ih7 _ _ _ _ _ _ _ _ _)
   | (with_reducible exact ih8 _ _ _ _ _ _ _ _ _ _)
   | (with_reducible exact ih9 _ _ _)
   | (with_reducible exact ih10 _ _)
   | (with_reducible exact ih11 _ _ _)
   | (with_reducible exact signalbenchlaw21_bitItems.mono _ _)
   | (with_reducible exact signalbenchlaw21_events.mono _ _ _)
   | (with_reducible exact signalbenchlaw21_few.mono _ _)
   | (with_reducible exact signalbenchlaw21_lives.mono _)
   | (with_reducible exact sync_Decode.mono _ _ _ _ _)
   | (with_reducible exact sync_Encode.mono _ _ _ _ _)
   | (with_reducible exact LeO.refl _)
   | (with_reducible exact LeO.none _)
   | (with_reducible refine LeO.ite ?_ ?_)
   | (with_reducible refine LeO.bind ?_ (fun _ => ?_))
   | exact ih0 _ _ _ _ _
   | exact ih1 _ _ _ _ _ _
   | exact ih2 _ _ _ _ _
   | exact ih3 _ _ _ _ _ _
   | exact ih4 _ _ _ _ _ _ _
   | exact ih5 _ _ _ _ _ _
   | exact ih6 _ _ _ _ _ _ _ _
   | exact ih7 _ _ _ _ _ _ _ _ _
   | exact ih8 _ _ _ _ _ _ _ _ _ _
   | exact ih9 _ _ _
   | exact ih10 _ _
   | exact ih11 _ _ _
   | exact signalbenchlaw21_bitItems.mono _ _
   | exact signalbenchlaw21_events.mono _ _ _
   | exact signalbenchlaw21_few.mono _ _
   | exact signalbenchlaw21_lives.mono _
   | exact sync_Decode.mono _ _ _ _ _
   | exact sync_Encode.mono _ _ _ _ _
   | exact LeO.none _
   | refine LeO.ite ?_ ?_
   | refine LeO.bind ?_ (fun _ => ?_)
  ·intro y0 y1 y2 y3 y4 y5 y6 y7
   unfold signalbenchlaw21_SyncAborts.j6
   repeat' first
   | (with_reducible exact ih0 _ _ _ _ _)
   | (with_reducible exact ih1 _ _ _ _ _ _)
   | (with_reducible exact ih2 _ _ _ _ _)
   | (with_reducible exact ih3 _ _ _ _ _ _)
   | (with_reducible exact ih4 _ _ _ _ _ _ _)
   | (with_reducible exact ih5 _ _ _ _ _ _)
   | (with_reducible exact ih6 _ _ _ _ _ _ _ _)
   | (with_reducible exact ih7 _ _ _ _ _ _ _ _ _)
   | (with_reducible exact ih8 _ _ _ _ _ _ _ _ _ _)
   | (with_reducible exact ih9 _ _ _)
   | (with_reducible exact ih10 _ _)
   | (with_reducible exact ih11 _ _ _)
   | (with_reducible exact signalbenchlaw21_bitItems.mono _ _)
   | (with_reducible exact signalbenchlaw21_events.mono _ _ _)
   | (with_reducible exact signalbenchlaw21_few.mono _ _)
   | (with_reducible exact signalbenchlaw21_lives.mono _)
   | (with_reducible exact sync_Decode.mono _ _ _ _ _)
   | (with_reducible exact sync_Encode.mono _ _ _ _ _)
   | (with_reducible exact LeO.refl _)
   | (with_reducible exact LeO.none _)
   | (with_reducible refine LeO.ite ?_ ?_)
   | (with_reducible refine LeO.bind ?_ (fun _ => ?_))
   | exact ih0 _ _ _ _ _
   | exact ih1 _ _ _ _ _ _
   | exact ih2 _ _ _ _ _
   | exact ih3 _ _ _ _ _ _
   | exact ih4 _ _ _ _ _ _ _
   | exact ih5 _ _ _ _ _ _
   | exact ih6 _ _ _ _ _ _ _ _
   | exact ih7 _ _ _ _ _ _ _ _ _
   | exact ih8 _ _ _ _ _ _ _ _ _ _
   | exact ih9 _ _ _
   | exact ih10 _ _
   | exact ih11 _ _ _
   | exact signalbenchlaw21_bitItems.mono _ _
   | exact signalbenchlaw21_events.mono _ _ _
   | exact signalbenchlaw21_few.mono _ _
   | exact signalbenchlaw21_lives.mono _
   | exact sync_Decode.mono _ _ _ _ _
   | exact sync_Encode.mono _ _ _ _ _
   | exact LeO.none _
   | refine LeO.ite ?_ ?_
   | refine LeO.bind ?_ (fun _ => ?_)
  ·intro y0 y1 y2 y3 y4 y5 y6 y7 y8
   unfold signalbenchlaw21_SyncAborts.l0
   repeat' first
   | (with_reducible exact ih0 _ _ _ _ _)
   | (with_reducible exact ih1 _ _ _ _ _ _)
   | (with_reducible exact ih2 _ _ _ _ _)
   | (with_reducible exact ih3 _ _ _ _ _ _)
   | (with_reducible exact ih4 _ _ _ _ _ _ _)
   | (with_reducible exact ih5 _ _ _ _ _ _)
   | (with_reducible exact ih6 _ _ _ _ _ _ _ _)
   | (with_reducible exact ih7 _ _ _ _ _ _ _ _ _)
   | (with_reducible exact ih8 _ _ _ _ _ _ _ _ _ _)
   | (with_reducible exact ih9 _ _ _)
   | (with_reducible exact ih10 _ _)
   | (with_reducible exact ih11 _ _ _)
   | (with_reducible exact signalbenchlaw21_bitItems.mono _ _)
   | (with_reducible exact signalbenchlaw21_events.mono _ _ _)
   | (with_reducible exact signalbenchlaw21_few.mono _ _)
   | (with_reducible exact signalbenchlaw21_lives.mono _)
   | (with_reducible exact sync_Decode.mono _ _ _ _ _)
   | (with_reducible exact sync_Encode.mono _ _ _ _ _)
   | (with_reducible exact LeO.refl _)
   | (with_reducible exact LeO.none _)
   | (with_reducible refine LeO.ite ?_ ?_)
   | (with_reducible refine LeO.bind ?_ (fun _ => ?_))
   | exact ih0 _ _ _ _ _
   | exact ih1 _ _ _ _ _ _
   | exact ih2 _ _ _ _ _
   | exact ih3 _ _ _ _ _ _
   | exact ih4 _ _ _ _ _ _ _
   | exact ih5 _ _ _ _ _ _
   | exact ih6 _ _ _ _ _ _ _ _
   | exact ih7 _ _ _ _ _ _ _ _ _
   | exact ih8 _ _ _ _ _ _ _ _ _ _
   | exact ih9 _ _ _
   | exact ih10 _ _
   | exact ih11 _ _ _
   | exact signalbenchlaw21_bitItems.mono _ _
   | exact signalbenchlaw21_events.mono _ _ _
   | exact signalbenchlaw21_few.mono _ _
   | exact signalbenchlaw21_lives.mono _
   | exact sync_Decode.mono _ _ _ _ _
   | exact sync_Encode.mono _ _ _ _ _
   | exact LeO.none _
   | refine LeO.ite ?_ ?_
   | refine LeO.bind ?_ (fun _ => ?_)
  ·intro y0 y1 y2 y3 y4 y5 y6 y7 y8 y9
   unfold signalbenchlaw21_SyncAborts.j8
   repeat' first
   | (with_reducible exact ih0 _ _ _ _ _)
   | (with_reducible exact ih1 _ _ _ _ _ _)
   | (with_reducible exact ih2 _ _ _ _ _)
   | (with_reducible exact ih3 _ _ _ _ _ _)
   | (with_reducible exact ih4 _ _ _ _ _ _ _)
   | (with_reducible exact ih5 _ _ _ _ _ _)
   | (with_reducible exact ih6 _ _ _ _ _ _ _ _)
   | (with_reducible exact ih7 _ _ _ _ _ _ _ _ _)
   | (with_reducible exact ih8 _ _ _ _ _ _ _ _ _ _)
   | (with_reducible exact ih9 _ _ _)
   | (with_reducible exact ih10 _ _)
   | (with_reducible exact ih11 _ _ _)
   | (with_reducible exact signalbenchlaw21_bitItems.mono _ _)
   | (with_reducible exact signalbenchlaw21_events.mono _ _ _)
   | (with_reducible exact signalbenchlaw21_few.mono _ _)
   | (with_reducible exact signalbenchlaw21_lives.mono _)
   | (with_reducible exact sync_Decode.mono _ _ _ _ _)
   | (with_reducible exact sync_Encode.mono _ _ _ _ _)
   | (with_reducible exact LeO.refl _)
   | (with_reducible exact LeO.none _)
   | (with_reducible refine LeO.ite ?_ ?_)
   | (with_reducible refine LeO.bind ?_ (fun _ => ?_))
   | exact ih0 _ _ _ _ _
   | exact ih1 _ _ _ _ _ _
   | exact ih2 _ _ _ _ _
   | exact ih3 _ _ _ _ _ _
   | exact ih4 _ _ _ _ _ _ _
   | exact ih5 _ _ _ _ _ _
   | exact ih6 _ _ _ _ _ _ _ _
   | exact ih7 _ _ _ _ _ _ _ _ _
   | exact ih8 _ _ _ _ _ _ _ _ _ _
   | exact ih9 _ _ _
   | exact ih10 _ _
   | exact ih11 _ _ _
   | exact signalbenchlaw21_bitItems.mono _ _
   | exact signalbenchlaw21_events.mono _ _ _
   | exact signalbenchlaw21_few.mono _ _
   | exact signalbenchlaw21_lives.mono _
   | exact sync_Decode.mono _ _ _ _ _
   | exact sync_Encode.mono _ _ _ _ _
   | exact LeO.none _
   | refine LeO.ite ?_ ?_
   | refine LeO.bind ?_ (fun _ => ?_)
  ·intro y0 y1 y2
   unfold signalbenchlaw21_SyncAborts.j9
   repeat' first
   | (with_reducible exact ih0 _ _ _ _ _)
   | (with_reducible exact ih1 _ _ _ _ _ _)
   | (with_reducible exact ih2 _ _ _ _ _)
   | (with_reducible exact ih3 _ _ _ _ _ _)
   | (with_reducible exact ih4 _ _ _ _ _ _ _)
   | (with_reducible exact ih5 _ _ _ _ _ _)
   | (with_reducible exact ih6 _ _ _ _ _ _ _ _)
   | (with_reducible exact ih7 _ _ _ _ _ _ _ _ _)
   | (with_reducible exact ih8 _ _ _ _ _ _ _ _ _ _)
   | (with_reducible exact ih9 _ _ _)
   | (with_reducible exact ih10 _ _)
   | (with_reducible exact ih11 _ _ _)
   | (with_reducible exact signalbenchlaw21_bitItems.mono _ _)
   | (with_reducible exact signalbenchlaw21_events.mono _ _ _)
   | (with_reducible exact signalbenchlaw21_few.mono _ _)
   | (with_reducible exact signalbenchlaw21_lives.mono _)
   | (with_reducible exact sync_Decode.mono _ _ _ _ _)
   | (with_reducible exact sync_Encode.mono _ _ _ _ _)
   | (with_reducible exact LeO.refl _)
   | (with_reducible exact LeO.none _)
   | (with_reducible refine LeO.ite ?_ ?_)
   | (with_reducible refine LeO.bind ?_ (fun _ => ?_))
   | exact ih0 _ _ _ _ _
   | exact ih1 _ _ _ _ _ _
   | exact ih2 _ _ _ _ _
   | exact ih3 _ _ _ _ _ _
   | exact ih4 _ _ _ _ _ _ _
   | exact ih5 _ _ _ _ _ _
   | exact ih6 _ _ _ _ _ _ _ _
   | exact ih7 _ _ _ _ _ _ _ _ _
   | exact ih8 _ _ _ _ _ _ _ _ _ _
   | exact ih9 _ _ _
   | exact ih10 _ _
   | exact ih11 _ _ _
   | exact signalbenchlaw21_bitItems.mono _ _
   | exact signalbenchlaw21_events.mono _ _ _
   | exact signalbenchlaw21_few.mono _ _
   | exact signalbenchlaw21_lives.mono _
   | exact sync_Decode.mono _ _ _ _ _
   | exact sync_Encode.mono _ _ _ _ _
   | exact LeO.none _
   | refine LeO.ite ?_ ?_
   | refine LeO.bind ?_ (fun _ => ?_)
  ·intro y0 y1
   unfold signalbenchlaw21_SyncAborts.j10
   repeat' first
   | (with_reducible exact ih0 _ _ _ _ _)
   | (with_reducible exact ih1 _ _ _ _ _ _)
   | (with_reducible exact ih2 _ _ _ _ _)
   | (with_reducible exact ih3 _ _ _ _ _ _)
   | (with_reducible exact ih4 _ _ _ _ _ _ _)
   | (with_reducible exact ih5 _ _ _ _ _ _)
   | (with_reducible exact ih6 _ _ _ _ _ _ _ _)
   | (with_reducible exact ih7 _ _ _ _ _ _ _ _ _)
   | (with_reducible exact ih8 _ _ _ _ _ _ _ _ _ _)
   | (with_reducible exact ih9 _ _ _)
   | (with_reducible exact ih10 _ _)
   | (with_reducible exact ih11 _ _ _)
   | (with_reducible exact signalbenchlaw21_bitItems.mono _ _)
   | (with_reducible exact signalbenchlaw21_events.mono _ _ _)
   | (with_reducible exact signalbenchlaw21_few.mono _ _)
   | (with_reducible exact signalbenchlaw21_lives.mono _)
   | (with_reducible exact sync_Decode.mono _ _ _ _ _)
   | (with_reducible exact sync_Encode.mono _ _ _ _ _)
   | (with_reducible exact LeO.refl _)
   | (with_reducible exact LeO.none _)
   | (with_reducible refine LeO.ite ?_ ?_)
   | (with_reducible refine LeO.bind ?_ (fun _ => ?_))
   | exact ih0 _ _ _ _ _
   | exact ih1 _ _ _ _ _ _
   | exact ih2 _ _ _ _ _
   | exact ih3 _ _ _ _ _ _
   | exact ih4 _ _ _ _ _ _ _
   | exact ih5 _ _ _ _ _ _
   | exact ih6 _ _ _ _ _ _ _ _
   | exact ih7 _ _ _ _ _ _ _ _ _
   | exact ih8 _ _ _ _ _ _ _ _ _ _
   | exact ih9 _ _ _
   | exact ih10 _ _
   | exact ih11 _ _ _
   | exact signalbenchlaw21_bitItems.mono _ _
   | exact signalbenchlaw21_events.mono _ _ _
   | exact signalbenchlaw21_few.mono _ _
   | exact signalbenchlaw21_lives.mono _
   | exact sync_Decode.mono _ _ _ _ _
   | exact sync_Encode.mono _ _ _ _ _
   | exact LeO.none _
   | refine LeO.ite ?_ ?_
   | refine LeO.bind ?_ (fun _ => ?_)
  ·intro y0 y1 y2
   unfold signalbenchlaw21_SyncAborts.l1
   repeat' first
   | (with_reducible exact ih0 _ _ _ _ _)
   | (with_reducible exact ih1 _ _ _ _ _ _)
   | (with_reducible exact ih2 _ _ _ _ _)
   | (with_reducible exact ih3 _ _ _ _ _ _)
   | (with_reducible exact ih4 _ _ _ _ _ _ _)
   | (with_reducible exact ih5 _ _ _ _ _ _)
   | (with_reducible exact ih6 _ _ _ _ _ _ _ _)
   | (with_reducible exact ih7 _ _ _ _ _ _ _ _ _)
   | (with_reducible exact ih8 _ _ _ _ _ _ _ _ _ _)
   | (with_reducible exact ih9 _ _ _)
   | (with_reducible exact ih10 _ _)
   | (with_reducible exact ih11 _ _ _)
   | (with_reducible exact signalbenchlaw21_bitItems.mono _ _)
   | (with_reducible exact signalbenchlaw21_events.mono _ _ _)
   | (with_reducible exact signalbenchlaw21_few.mono _ _)
   | (with_reducible exact signalbenchlaw21_lives.mono _)
   | (with_reducible exact sync_Decode.mono _ _ _ _ _)
   | (with_reducible exact sync_Encode.mono _ _ _ _ _)
   | (with_reducible exact LeO.refl _)
   | (with_reducible exact LeO.none _)
   | (with_reducible refine LeO.ite ?_ ?_)
   | (with_reducible refine LeO.bind ?_ (fun _ => ?_))
   | exact ih0 _ _ _ _ _
   | exact ih1 _ _ _ _ _ _
   | exact ih2 _ _ _ _ _
   | exact ih3 _ _ _ _ _ _
   | exact ih4 _ _ _ _ _ _ _
   | exact ih5 _ _ _ _ _ _
   | exact ih6 _ _ _ _ _ _ _ _
   | exact ih7 _ _ _ _ _ _ _ _ _
   | exact ih8 _ _ _ _ _ _ _ _ _ _
   | exact ih9 _ _ _
   | exact ih10 _ _
   | exact ih11 _ _ _
   | exact signalbenchlaw21_bitItems.mono _ _
   | exact signalbenchlaw21_events.mono _ _ _
   | exact signalbenchlaw21_few.mono _ _
   | exact signalbenchlaw21_lives.mono _
   | exact sync_Decode.mono _ _ _ _ _
   | exact sync_Encode.mono _ _ _ _ _
   | exact LeO.none _
   | refine LeO.ite ?_ ?_
   | refine LeO.bind ?_ (fun _ => ?_)
theorem signalbenchlaw21_SyncAborts.mono : ∀ a0 a1 a2 a3 a4 k, LeO (signalbenchlaw21_SyncAborts.f k a0 a1 a2 a3 a4) (signalbenchlaw21_SyncAborts.f (k + 1) a0 a1 a2 a3 a4) := by
 intro a0 a1 a2 a3 a4 k
 obtain ⟨ih0, ih1, ih2, ih3, ih4, ih5, ih6, ih7, ih8, ih9, ih10, ih11⟩ := signalbenchlaw21_SyncAborts.mono_l k
 unfold signalbenchlaw21_SyncAborts.f
 repeat' first
   | (with_reducible exact ih0 _ _ _ _ _)
   | (with_reducible exact ih1 _ _ _ _ _ _)
   | (with_reducible exact ih2 _ _ _ _ _)
   | (with_reducible exact ih3 _ _ _ _ _ _)
   | (with_reducible exact ih4 _ _ _ _ _ _ _)
   | (with_reducible exact ih5 _ _ _ _ _ _)
   | (with_reducible exact ih6 _ _ _ _ _ _ _ _)
   | (with_reducible exact ih7 _ _ _ _ _ _ _ _ _)
   | (with_reducible exact ih8 _ _ _ _ _ _ _ _ _ _)
   | (with_reducible exact ih9 _ _ _)
   | (with_reducible exact ih10 _ _)
   | (with_reducible exact ih11 _ _ _)
   | (with_reducible exact signalbenchlaw21_bitItems.mono _ _)
   | (with_reducible exact signalbenchlaw21_events.mono _ _ _)
   | (with_reducible exact signalbenchlaw21_few.mono _ _)
   | (with_reducible exact signalbenchlaw21_lives.mono _)
   | (with_reducible exact sync_Decode.mono _ _ _ _ _)
   | (with_reducible exact sync_Encode.mono _ _ _ _ _)
   | (with_reducible exact LeO.refl _)
   | (with_reducible exact LeO.none _)
   | (with_reducible refine LeO.ite ?_ ?_)
   | (with_reducible refine LeO.bind ?_ (fun _ => ?_))
   | exact ih0 _ _ _ _ _
   | exact ih1 _ _ _ _ _ _
   | exact ih2 _ _ _ _ _
   | exact ih3 _ _ _ _ _ _
   | exact ih4 _ _ _ _ _ _ _
   | exact ih5 _ _ _ _ _ _
   | exact ih6 _ _ _ _ _ _ _ _
   | exact ih7 _ _ _ _ _ _ _ _ _
   | exact ih8 _ _ _ _ _ _ _ _ _ _
   | exact ih9 _ _ _
   | exact ih10 _ _
   | exact ih11 _ _ _
   | exact signalbenchlaw21_bitItems.mono _ _
   | exact signalbenchlaw21_events.mono _ _ _
   | exact signalbenchlaw21_few.mono _ _
   | exact signalbenchlaw21_lives.mono _
   | exact sync_Decode.mono _ _ _ _ _
   | exact sync_Encode.mono _ _ _ _ _
   | exact LeO.none _
   | refine LeO.ite ?_ ?_
   | refine LeO.bind ?_ (fun _ => ?_)
set_option maxHeartbeats 8000000 in
set_option maxRecDepth 100000 in
theorem signalbenchlaw21_SyncAborts.calls (k : Nat) (a0_0 : ByteArray) (a0_1 : Int) (a0_2 : Bool) (A1 : Option Addr) (c1 : Nat) (l1 : List (S46)) (a2 : Int) (r : Bool) (w : World) (hr1 : Kd.C k46 w A1 l1.length l1) (hc1 : l1.length ≤ c1) (h : signalbenchlaw21_SyncAborts.f k a0_0 a0_1 a0_2 l1 a2 = some r) :
  Calls Try.prog 7 #[.agg #[.string a0_0, .int .i64 a0_1, .bool a0_2], .slice A1 l1.length c1, .int .i64 a2] w fun e w' => e = .returned (.bool r) ∧ Below w.heap.size w w' := by
 have hu23 := Try.underlying23
 have hu32 := Try.underlying32
 have HR1 := Aside0.mk hr1
 have HC1 := Aside0.mk hc1
 clear hr1 hc1
 have HB := Aside0.mk (Below.refl w.heap.size w)
 have H : ((signalbenchlaw21_lives.f k).bind fun t292 => (if t292 = true then (signalbenchlaw21_SyncAborts.j0 k l1 a2 a0_0 a0_1 a0_2) else (some false))) = some r := h
 clear h
 replace H := Option.bind_eq_some_iff.mp H
 obtain ⟨t292, A40, H⟩ := H
 replace H : (if t292 = true then (signalbenchlaw21_SyncAborts.j0 k l1 a2 a0_0 a0_1 a0_2) else (some false)) = some r := H
 have A4 := Aside0.mk A40
 clear A40
 have HC5 := Aside0.mk H
 clear H
 go_enter Try.func7, Try.ntmps7
 go_upto_if 15 with (first | ((with_reducible refine gate_dst (N := 3) rfl ?_); (try (refine gate_guard (by first | rfl | (go_simp; done)) ?_; dsimp only)); refine box_event ?hg (N := 3) ?hd (cs := #[.string a0_0, .int .i64 a0_1, .bool a0_2]) (t := 23) ?hr ?_; (case hd => rfl); (case hg => rfl); (case hr => first | (go_simp; done) | (go_simp; rfl)); intro gb291 hg w6 hbox hb; have n0_ := Aside0.mk (below_step (hbw HB.out) hb); have n1_ := Aside0.mk (hbox); have n2_ := Aside0.mk ((by rw [hg]; exact (below_size (hbw HB.out)) : w.heap.size ≤ gb291)); have n3_ := Aside0.mk ((by rw [hg]; exact (below_size (hbw HB.out)) : w.heap.size ≤ gb291)); clear HB; have HB := n0_; have BK291 := n1_; have GW291 := n2_; have GE291 := n3_; clear n0_ n1_ n2_ n3_; clear hb hbox hg) | (go_at_call 8; (with_reducible refine (signalbenchlaw21_lives.calls k  t292 _ A4.out).mono ?_); rintro e w7 ⟨rfl, hb⟩; have n0_ := Aside0.mk (blkb BK291.out hb); have n1_ := Aside0.mk (below_step (hbw HB.out) hb); clear BK291; clear HB; have BK291 := n0_; have HB := n1_; clear n0_ n1_; (try clear hb); (try clear hb2); (try clear hk); (try clear hi)))
 repeat (go_quiet (first | ((with_reducible refine gate_dst (N := 3) rfl ?_); (try (refine gate_guard (by first | rfl | (go_simp; done)) ?_; dsimp only)); refine box_event ?hg (N := 3) ?hd (cs := #[.string a0_0, .int .i64 a0_1, .bool a0_2]) (t := 23) ?hr ?_; (case hd => rfl); (case hg => rfl); (case hr => first | (go_simp; done) | (go_simp; rfl)); intro gb291 hg w6 hbox hb; have n0_ := Aside0.mk (below_step (hbw HB.out) hb); have n1_ := Aside0.mk (hbox); have n2_ := Aside0.mk ((by rw [hg]; exact (below_size (hbw HB.out)) : w.heap.size ≤ gb291)); have n3_ := Aside0.mk ((by rw [hg]; exact (below_size (hbw HB.out)) : w.heap.size ≤ gb291)); clear HB; have HB := n0_; have BK291 := n1_; have GW291 := n2_; have GE291 := n3_; clear n0_ n1_ n2_ n3_; clear hb hbox hg) | (go_at_call 8; (with_reducible refine (signalbenchlaw21_lives.calls k  t292 _ A4.out).mono ?_); rintro e w7 ⟨rfl, hb⟩; have n0_ := Aside0.mk (blkb BK291.out hb); have n1_ := Aside0.mk (below_step (hbw HB.out) hb); clear BK291; clear HB; have BK291 := n0_; have HB := n1_; clear n0_ n1_; (try clear hb); (try clear hb2); (try clear hk); (try clear hi))); go_upto_if 15 with (first | ((with_reducible refine gate_dst (N := 3) rfl ?_); (try (refine gate_guard (by first | rfl | (go_simp; done)) ?_; dsimp only)); refine box_event ?hg (N := 3) ?hd (cs := #[.string a0_0, .int .i64 a0_1, .bool a0_2]) (t := 23) ?hr ?_; (case hd => rfl); (case hg => rfl); (case hr => first | (go_simp; done) | (go_simp; rfl)); intro gb291 hg w6 hbox hb; have n0_ := Aside0.mk (below_step (hbw HB.out) hb); have n1_ := Aside0.mk (hbox); have n2_ := Aside0.mk ((by rw [hg]; exact (below_size (hbw HB.out)) : w.heap.size ≤ gb291)); have n3_ := Aside0.mk ((by rw [hg]; exact (below_size (hbw HB.out)) : w.heap.size ≤ gb291)); clear HB; have HB := n0_; have BK291 := n1_; have GW291 := n2_; have GE291 := n3_; clear n0_ n1_ n2_ n3_; clear hb hbox hg) | (go_at_call 8; (with_reducible refine (signalbenchlaw21_lives.calls k  t292 _ A4.out).mono ?_); rintro e w7 ⟨rfl, hb⟩; have n0_ := Aside0.mk (blkb BK291.out hb); have n1_ := Aside0.mk (below_step (hbw HB.out) hb); clear BK291; clear HB; have BK291 := n0_; have HB := n1_; clear n0_ n1_; (try clear hb); (try clear hb2); (try clear hk); (try clear hi))))
 (try simp only [Act.put, List.setIfInBounds_toArray, List.set_cons_zero, List.set_cons_succ])
 go_cut [] (fun wc => ∃ (kq : Nat), Aside0 (signalbenchlaw21_SyncAborts.j0 kq l1 a2 a0_0 a0_1 a0_2 = some r) ∧ Aside0 (kq ≤ k) ∧ Aside0 (wc.heap[gb291]? = some (.cells #[.string a0_0, .int .i64 a0_1, .bool a0_2] 23 (0, 0))) ∧ Aside0 (Below w.heap.size w wc))
 case first => as_aux_lemma =>
  have H := HC5.out
  clear HC5
  by_cases c8 : t292 = true
  ·subst c8
   have H1 : (signalbenchlaw21_SyncAborts.j0 k l1 a2 a0_0 a0_1 a0_2) = some r := by rw [if_pos rfl] at H; exact H
   clear H
   have H := H1
   clear H1
   have H' := Aside0.mk H
   clear H
   go_wp2
   repeat (go_quiet (fail); try go_wp2)
   go_meet
   case rel => exact ⟨_, H', ⟨by first | omega | exact Nat.le_refl _⟩, ⟨by (with_reducible repeat (first | refine blk_drewN ?_ _ | refine blk_drew ?_ | refine blk_alloc ?_ _)); exact BK291.out⟩, ⟨by repeat (first | (with_reducible first | exact HB.out | apply below_alloc | apply pw_below_drewN | apply below_drew1 | refine below_set ?_ GE291.out) | exact HB.out)⟩⟩
  ·replace c8 := Bool.eq_false_iff.mpr c8
   subst c8
   have H1 : (some false) = some r := by rw [if_neg (show ¬ (false = true) by decide)] at H; exact H
   clear H
   have H := H1
   clear H1
   obtain rfl := Option.some.inj H
   go_wp2
   repeat (go_quiet (fail); try go_wp2)
   go_ret
   exact ⟨by first | rfl | (simp [errW_none, errW_some] <;> rfl) | (simp [*, errW_none, errW_some] <;> rfl), by repeat (first | (with_reducible first | exact HB.out | apply below_alloc | apply pw_below_drewN | apply below_drew1 | refine below_set ?_ GE291.out) | exact HB.out)⟩
 case rest =>
  clear HC5
  try clear c1
  try clear p2
  try clear c7
  try clear c8
  obtain ⟨kq, HA, HJ4, BK291, HB⟩ := hcut
  cases kq with
  | zero => exact absurd HA.out (by simp [signalbenchlaw21_SyncAborts.j0])
  | succ kj4 =>
   have H := HA.out
   clear HA
   simp only [signalbenchlaw21_SyncAborts.j0] at H
   have HC9 := Aside0.mk H
   clear H
   go_upto_region 3 with (fail)
   repeat (go_quiet (fail); go_upto_region 3 with (fail))
   go_cut [34] (fun v34 wc => ∃ (kq : Nat) (x34_8 : Bool), v34 = .bool x34_8 ∧ Aside0 (signalbenchlaw21_SyncAborts.j1 kq l1 a2 x34_8 a0_0 a0_1 a0_2 = some r) ∧ Aside0 (kq ≤ kj4) ∧ Aside0 (wc.heap[gb291]? = some (.cells #[.string a0_0, .int .i64 a0_1, .bool a0_2] 23 (0, 0))) ∧ Aside0 (Below w.heap.size w wc))
   case first => as_aux_lemma =>
    have H := HC9.out
    clear HC9
    replace H := Option.bind_eq_some_iff.mp H
    obtain ⟨t293, A100, H⟩ := H
    replace H : (if t293 = true then (if (l1.length : Int) < 1 then (signalbenchlaw21_SyncAborts.j1 kj4 l1 a2 true a0_0 a0_1 a0_2) else (if (l1.length : Int) > 50 then (signalbenchlaw21_SyncAborts.j1 kj4 l1 a2 true a0_0 a0_1 a0_2) else (signalbenchlaw21_SyncAborts.j1 kj4 l1 a2 (decide ((a0_0.size : Int) > 32)) a0_0 a0_1 a0_2))) else (signalbenchlaw21_SyncAborts.j1 kj4 l1 a2 true a0_0 a0_1 a0_2)) = some r := H
    have A10 := Aside0.mk A100
    clear A100
    by_cases c11 : t293 = true
    ·subst c11
     have H1 : (if (l1.length : Int) < 1 then (signalbenchlaw21_SyncAborts.j1 kj4 l1 a2 true a0_0 a0_1 a0_2) else (if (l1.length : Int) > 50 then (signalbenchlaw21_SyncAborts.j1 kj4 l1 a2 true a0_0 a0_1 a0_2) else (signalbenchlaw21_SyncAborts.j1 kj4 l1 a2 (decide ((a0_0.size : Int) > 32)) a0_0 a0_1 a0_2))) = some r := by rw [if_pos rfl] at H; exact H
     clear H
     have H := H1
     clear H1
     by_cases c12 : (l1.length : Int) < 1
     ·rw [if_pos c12] at H
      have c12b0 : decide ((l1.length : Int) < 1) = true := decide_eq_true c12
      have c12b1 : decide (l1.length < 1) = true := decide_eq_true (by omega)
      clear c12
      (first | rw [c12b0] | (simp only [i64_w, i32_w]; rw [c12b0]) | skip)
      have H' := Aside0.mk H
      clear H
      go_wp2_with (first | (go_at_call 18; (with_reducible refine (signalbenchlaw21_few.calls kj4 _ _ l1 true _ ?side1 ?side2 A10.out).mono ?_); (case side1 => repeat (first | exact (Kd.C_below HR1.out HB.out) | (with_reducible refine Kd.C_alloc ?_ _) | (with_reducible refine Kd.C_drewN ?_ _) | (with_reducible refine Kd.C_drew ?_))); (case side2 => exact HC1.out); rintro e w' ⟨rfl, ⟨nd, rfl⟩⟩; (try first | exact ⟨rfl, _, World.drewN_drewN _ _ _⟩ | exact ⟨rfl, _, Eq.trans (World.drewN_drewN _ _ _) (congrArg (World.drewN _) (Nat.add_assoc _ _ _))⟩)))
      repeat (go_quiet (first | (go_at_call 18; (with_reducible refine (signalbenchlaw21_few.calls kj4 _ _ l1 true _ ?side1 ?side2 A10.out).mono ?_); (case side1 => repeat (first | exact (Kd.C_below HR1.out HB.out) | (with_reducible refine Kd.C_alloc ?_ _) | (with_reducible refine Kd.C_drewN ?_ _) | (with_reducible refine Kd.C_drew ?_))); (case side2 => exact HC1.out); rintro e w' ⟨rfl, ⟨nd, rfl⟩⟩; (try first | exact ⟨rfl, _, World.drewN_drewN _ _ _⟩ | exact ⟨rfl, _, Eq.trans (World.drewN_drewN _ _ _) (congrArg (World.drewN _) (Nat.add_assoc _ _ _))⟩))); try go_wp2_with (first | (go_at_call 18; (with_reducible refine (signalbenchlaw21_few.calls kj4 _ _ l1 true _ ?side1 ?side2 A10.out).mono ?_); (case side1 => repeat (first | exact (Kd.C_below HR1.out HB.out) | (with_reducible refine Kd.C_alloc ?_ _) | (with_reducible refine Kd.C_drewN ?_ _) | (with_reducible refine Kd.C_drew ?_))); (case side2 => exact HC1.out); rintro e w' ⟨rfl, ⟨nd, rfl⟩⟩; (try first | exact ⟨rfl, _, World.drewN_drewN _ _ _⟩ | exact ⟨rfl, _, Eq.trans (World.drewN_drewN _ _ _) (congrArg (World.drewN _) (Nat.add_assoc _ _ _))⟩))))
      go_meet
      case rel => exact ⟨_, (true), (by first | rfl | (simp; done) | (simp [*]; done)), H', ⟨by have := HJ4.out; first | omega | exact Nat.le_refl _⟩, ⟨by (with_reducible repeat (first | refine blk_drewN ?_ _ | refine blk_drew ?_ | refine blk_alloc ?_ _)); exact BK291.out⟩, ⟨by repeat (first | (with_reducible first | exact HB.out | apply below_alloc | apply pw_below_drewN | apply below_drew1 | refine below_set ?_ GE291.out) | exact HB.out)⟩⟩
     ·rw [if_neg c12] at H
      have c12b0 : decide ((l1.length : Int) < 1) = false := decide_eq_false c12
      have c12b1 : decide (l1.length < 1) = false := decide_eq_false (by omega)
      clear c12
      (first | rw [c12b0] | (simp only [i64_w, i32_w]; rw [c12b0]) | skip)
      by_cases c13 : (l1.length : Int) > 50
      ·rw [if_pos c13] at H
       have c13b0 : decide (50 < (l1.length : Int)) = true := decide_eq_true c13
       have c13b1 : decide (50 < l1.length) = true := decide_eq_true (by omega)
       clear c13
       have H' := Aside0.mk H
       clear H
       go_wp2_with (first | (go_at_call 18; (with_reducible refine (signalbenchlaw21_few.calls kj4 _ _ l1 true _ ?side1 ?side2 A10.out).mono ?_); (case side1 => repeat (first | exact (Kd.C_below HR1.out HB.out) | (with_reducible refine Kd.C_alloc ?_ _) | (with_reducible refine Kd.C_drewN ?_ _) | (with_reducible refine Kd.C_drew ?_))); (case side2 => exact HC1.out); rintro e w' ⟨rfl, ⟨nd, rfl⟩⟩; (try first | exact ⟨rfl, _, World.drewN_drewN _ _ _⟩ | exact ⟨rfl, _, Eq.trans (World.drewN_drewN _ _ _) (congrArg (World.drewN _) (Nat.add_assoc _ _ _))⟩)))
       repeat (go_quiet (first | (go_at_call 18; (with_reducible refine (signalbenchlaw21_few.calls kj4 _ _ l1 true _ ?side1 ?side2 A10.out).mono ?_); (case side1 => repeat (first | exact (Kd.C_below HR1.out HB.out) | (with_reducible refine Kd.C_alloc ?_ _) | (with_reducible refine Kd.C_drewN ?_ _) | (with_reducible refine Kd.C_drew ?_))); (case side2 => exact HC1.out); rintro e w' ⟨rfl, ⟨nd, rfl⟩⟩; (try first | exact ⟨rfl, _, World.drewN_drewN _ _ _⟩ | exact ⟨rfl, _, Eq.trans (World.drewN_drewN _ _ _) (congrArg (World.drewN _) (Nat.add_assoc _ _ _))⟩))); try go_wp2_with (first | (go_at_call 18; (with_reducible refine (signalbenchlaw21_few.calls kj4 _ _ l1 true _ ?side1 ?side2 A10.out).mono ?_); (case side1 => repeat (first | exact (Kd.C_below HR1.out HB.out) | (with_reducible refine Kd.C_alloc ?_ _) | (with_reducible refine Kd.C_drewN ?_ _) | (with_reducible refine Kd.C_drew ?_))); (case side2 => exact HC1.out); rintro e w' ⟨rfl, ⟨nd, rfl⟩⟩; (try first | exact ⟨rfl, _, World.drewN_drewN _ _ _⟩ | exact ⟨rfl, _, Eq.trans (World.drewN_drewN _ _ _) (congrArg (World.drewN _) (Nat.add_assoc _ _ _))⟩))))
       go_meet
       case rel => exact ⟨_, (true), (by first | rfl | (simp; done) | (simp [*]; done)), H', ⟨by have := HJ4.out; first | omega | exact Nat.le_refl _⟩, ⟨by (with_reducible repeat (first | refine blk_drewN ?_ _ | refine blk_drew ?_ | refine blk_alloc ?_ _)); exact BK291.out⟩, ⟨by repeat (first | (with_reducible first | exact HB.out | apply below_alloc | apply pw_below_drewN | apply below_drew1 | refine below_set ?_ GE291.out) | exact HB.out)⟩⟩
      ·rw [if_neg c13] at H
       have c13b0 : decide (50 < (l1.length : Int)) = false := decide_eq_false c13
       have c13b1 : decide (50 < l1.length) = false := decide_eq_false (by omega)
       clear c13
       have H' := Aside0.mk H
       clear H
       go_wp2_with (first | (go_at_call 18; (with_reducible refine (signalbenchlaw21_few.calls kj4 _ _ l1 true _ ?side1 ?side2 A10.out).mono ?_); (case side1 => repeat (first | exact (Kd.C_below HR1.out HB.out) | (with_reducible refine Kd.C_alloc ?_ _) | (with_reducible refine Kd.C_drewN ?_ _) | (with_reducible refine Kd.C_drew ?_))); (case side2 => exact HC1.out); rintro e w' ⟨rfl, ⟨nd, rfl⟩⟩; (try first | exact ⟨rfl, _, World.drewN_drewN _ _ _⟩ | exact ⟨rfl, _, Eq.trans (World.drewN_drewN _ _ _) (congrArg (World.drewN _) (Nat.add_assoc _ _ _))⟩); have hcz14_0 : wc.cell? ⟨gb291, 0, none⟩ = some (.string a0_0) := (blk_cell BK291.out 0).trans rfl; have hcz14_1 : wc.cell? ⟨gb291, 1, none⟩ = some (.int .i64 a0_1) := (blk_cell BK291.out 1).trans rfl; have hcz14_2 : wc.cell? ⟨gb291, 2, none⟩ = some (.bool a0_2) := (blk_cell BK291.out 2).trans rfl; have hfz14_0 := blk_frozen BK291.out 0; have hfz14_1 := blk_frozen BK291.out 1; have hfz14_2 := blk_frozen BK291.out 2))
       repeat (go_quiet (first | (go_at_call 18; (with_reducible refine (signalbenchlaw21_few.calls kj4 _ _ l1 true _ ?side1 ?side2 A10.out).mono ?_); (case side1 => repeat (first | exact (Kd.C_below HR1.out HB.out) | (with_reducible refine Kd.C_alloc ?_ _) | (with_reducible refine Kd.C_drewN ?_ _) | (with_reducible refine Kd.C_drew ?_))); (case side2 => exact HC1.out); rintro e w' ⟨rfl, ⟨nd, rfl⟩⟩; (try first | exact ⟨rfl, _, World.drewN_drewN _ _ _⟩ | exact ⟨rfl, _, Eq.trans (World.drewN_drewN _ _ _) (congrArg (World.drewN _) (Nat.add_assoc _ _ _))⟩); have hcz14_0 : wc.cell? ⟨gb291, 0, none⟩ = some (.string a0_0) := (blk_cell BK291.out 0).trans rfl; have hcz14_1 : wc.cell? ⟨gb291, 1, none⟩ = some (.int .i64 a0_1) := (blk_cell BK291.out 1).trans rfl; have hcz14_2 : wc.cell? ⟨gb291, 2, none⟩ = some (.bool a0_2) := (blk_cell BK291.out 2).trans rfl; have hfz14_0 := blk_frozen BK291.out 0; have hfz14_1 := blk_frozen BK291.out 1; have hfz14_2 := blk_frozen BK291.out 2)); try go_wp2_with (first | (go_at_call 18; (with_reducible refine (signalbenchlaw21_few.calls kj4 _ _ l1 true _ ?side1 ?side2 A10.out).mono ?_); (case side1 => repeat (first | exact (Kd.C_below HR1.out HB.out) | (with_reducible refine Kd.C_alloc ?_ _) | (with_reducible refine Kd.C_drewN ?_ _) | (with_reducible refine Kd.C_drew ?_))); (case side2 => exact HC1.out); rintro e w' ⟨rfl, ⟨nd, rfl⟩⟩; (try first | exact ⟨rfl, _, World.drewN_drewN _ _ _⟩ | exact ⟨rfl, _, Eq.trans (World.drewN_drewN _ _ _) (congrArg (World.drewN _) (Nat.add_assoc _ _ _))⟩); have hcz14_0 : wc.cell? ⟨gb291, 0, none⟩ = some (.string a0_0) := (blk_cell BK291.out 0).trans rfl; have hcz14_1 : wc.cell? ⟨gb291, 1, none⟩ = some (.int .i64 a0_1) := (blk_cell BK291.out 1).trans rfl; have hcz14_2 : wc.cell? ⟨gb291, 2, none⟩ = some (.bool a0_2) := (blk_cell BK291.out 2).trans rfl; have hfz14_0 := blk_frozen BK291.out 0; have hfz14_1 := blk_frozen BK291.out 1; have hfz14_2 := blk_frozen BK291.out 2)))
       go_meet
       case rel => exact ⟨_, (decide ((a0_0.size : Int) > 32)), (by first | rfl | (simp; done) | (simp [*]; done)), H', ⟨by have := HJ4.out; first | omega | exact Nat.le_refl _⟩, ⟨by (with_reducible repeat (first | refine blk_drewN ?_ _ | refine blk_drew ?_ | refine blk_alloc ?_ _)); exact BK291.out⟩, ⟨by repeat (first | (with_reducible first | exact HB.out | apply below_alloc | apply pw_below_drewN | apply below_drew1 | refine below_set ?_ GE291.out) | exact HB.out)⟩⟩
    ·replace c11 := Bool.eq_false_iff.mpr c11
     subst c11
     have H1 : (signalbenchlaw21_SyncAborts.j1 kj4 l1 a2 true a0_0 a0_1 a0_2) = some r := by rw [if_neg (show ¬ (false = true) by decide)] at H; exact H
     clear H
     have H := H1
     clear H1
     have H' := Aside0.mk H
     clear H
     go_wp2_with (first | (go_at_call 18; (with_reducible refine (signalbenchlaw21_few.calls kj4 _ _ l1 false _ ?side1 ?side2 A10.out).mono ?_); (case side1 => repeat (first | exact (Kd.C_below HR1.out HB.out) | (with_reducible refine Kd.C_alloc ?_ _) | (with_reducible refine Kd.C_drewN ?_ _) | (with_reducible refine Kd.C_drew ?_))); (case side2 => exact HC1.out); rintro e w' ⟨rfl, ⟨nd, rfl⟩⟩; (try first | exact ⟨rfl, _, World.drewN_drewN _ _ _⟩ | exact ⟨rfl, _, Eq.trans (World.drewN_drewN _ _ _) (congrArg (World.drewN _) (Nat.add_assoc _ _ _))⟩)))
     repeat (go_quiet (first | (go_at_call 18; (with_reducible refine (signalbenchlaw21_few.calls kj4 _ _ l1 false _ ?side1 ?side2 A10.out).mono ?_); (case side1 => repeat (first | exact (Kd.C_below HR1.out HB.out) | (with_reducible refine Kd.C_alloc ?_ _) | (with_reducible refine Kd.C_drewN ?_ _) | (with_reducible refine Kd.C_drew ?_))); (case side2 => exact HC1.out); rintro e w' ⟨rfl, ⟨nd, rfl⟩⟩; (try first | exact ⟨rfl, _, World.drewN_drewN _ _ _⟩ | exact ⟨rfl, _, Eq.trans (World.drewN_drewN _ _ _) (congrArg (World.drewN _) (Nat.add_assoc _ _ _))⟩))); try go_wp2_with (first | (go_at_call 18; (with_reducible refine (signalbenchlaw21_few.calls kj4 _ _ l1 false _ ?side1 ?side2 A10.out).mono ?_); (case side1 => repeat (first | exact (Kd.C_below HR1.out HB.out) | (with_reducible refine Kd.C_alloc ?_ _) | (with_reducible refine Kd.C_drewN ?_ _) | (with_reducible refine Kd.C_drew ?_))); (case side2 => exact HC1.out); rintro e w' ⟨rfl, ⟨nd, rfl⟩⟩; (try first | exact ⟨rfl, _, World.drewN_drewN _ _ _⟩ | exact ⟨rfl, _, Eq.trans (World.drewN_drewN _ _ _) (congrArg (World.drewN _) (Nat.add_assoc _ _ _))⟩))))
     go_meet
     case rel => exact ⟨_, (true), (by first | rfl | (simp; done) | (simp [*]; done)), H', ⟨by have := HJ4.out; first | omega | exact Nat.le_refl _⟩, ⟨by (with_reducible repeat (first | refine blk_drewN ?_ _ | refine blk_drew ?_ | refine blk_alloc ?_ _)); exact BK291.out⟩, ⟨by repeat (first | (with_reducible first | exact HB.out | apply below_alloc | apply pw_below_drewN | apply below_drew1 | refine below_set ?_ GE291.out) | exact HB.out)⟩⟩
   case rest =>
    clear HC9
    try clear c1
    try clear p2
    try clear c7
    try clear c8
    try clear c11
    try clear c12
    try clear c12b0
    try clear c12b1
    try clear c13
    try clear c13b0
    try clear c13b1
    try clear hcz14_0
    try clear hcz14_1
    try clear hcz14_2
    try clear hfz14_0
    try clear hfz14_1
    try clear hfz14_2
    try clear p2
    obtain ⟨kq, x34_8, rfl, HA, HJ8, BK291, HB⟩ := hcut
    cases kq with
    | zero => exact absurd HA.out (by simp [signalbenchlaw21_SyncAborts.j1])
    | succ kj8 =>
     have H := HA.out
     clear HA
     simp only [signalbenchlaw21_SyncAborts.j1] at H
     have HC15 := Aside0.mk H
     clear H
     go_upto_if 34 with (fail)
     repeat (go_quiet (fail); go_upto_if 34 with (fail))
     go_cut [] (fun wc => ∃ (kq : Nat), Aside0 (signalbenchlaw21_SyncAborts.j2 kq l1 a2 a0_0 a0_1 a0_2 = some r) ∧ Aside0 (kq ≤ kj8) ∧ Aside0 (wc.heap[gb291]? = some (.cells #[.string a0_0, .int .i64 a0_1, .bool a0_2] 23 (0, 0))) ∧ Aside0 (Below w.heap.size w wc))
     case first => as_aux_lemma =>
      have H := HC15.out
      clear HC15
      by_cases c16 : x34_8 = true
      ·subst c16
       have H1 : (some true) = some r := by rw [if_pos rfl] at H; exact H
       clear H
       have H := H1
       clear H1
       obtain rfl := Option.some.inj H
       go_wp2
       repeat (go_quiet (fail); try go_wp2)
       go_ret
       exact ⟨by first | rfl | (simp [errW_none, errW_some] <;> rfl) | (simp [*, errW_none, errW_some] <;> rfl), by repeat (first | (with_reducible first | exact HB.out | apply below_alloc | apply pw_below_drewN | apply below_drew1 | refine below_set ?_ GE291.out) | exact HB.out)⟩
      ·replace c16 := Bool.eq_false_iff.mpr c16
       subst c16
       have H1 : (signalbenchlaw21_SyncAborts.j2 kj8 l1 a2 a0_0 a0_1 a0_2) = some r := by rw [if_neg (show ¬ (false = true) by decide)] at H; exact H
       clear H
       have H := H1
       clear H1
       have H' := Aside0.mk H
       clear H
       go_wp2
       repeat (go_quiet (fail); try go_wp2)
       go_meet
       case rel => exact ⟨_, H', ⟨by have := HJ4.out; have := HJ8.out; first | omega | exact Nat.le_refl _⟩, ⟨by (with_reducible repeat (first | refine blk_drewN ?_ _ | refine blk_drew ?_ | refine blk_alloc ?_ _)); exact BK291.out⟩, ⟨by repeat (first | (with_reducible first | exact HB.out | apply below_alloc | apply pw_below_drewN | apply below_drew1 | refine below_set ?_ GE291.out) | exact HB.out)⟩⟩
     case rest =>
      clear HC15
      try clear c1
      try clear p2
      try clear c7
      try clear c8
      try clear c11
      try clear c12
      try clear c12b0
      try clear c12b1
      try clear c13
      try clear c13b0
      try clear c13b1
      try clear c16
      try clear hcz14_0
      try clear hcz14_1
      try clear hcz14_2
      try clear hfz14_0
      try clear hfz14_1
      try clear hfz14_2
      try clear p2
      obtain ⟨kq, HA, HJ14, BK291, HB⟩ := hcut
      cases kq with
      | zero => exact absurd HA.out (by simp [signalbenchlaw21_SyncAborts.j2])
      | succ kj14 =>
       have H := HA.out
       clear HA
       simp only [signalbenchlaw21_SyncAborts.j2] at H
       replace H := Option.bind_eq_some_iff.mp H
       obtain ⟨⟨t294, t297⟩, A170, H⟩ := H
       replace H : (if t297 = 0 then (signalbenchlaw21_SyncAborts.j3 kj14 l1 a2 t294 a0_0 a0_1 a0_2) else (some ((t294.length : Int) == 0))) = some r := H
       have A17 := Aside0.mk A170
       clear A170
       have HC18 := Aside0.mk H
       clear H
       have hcz19_0 : wc.cell? ⟨gb291, 0, none⟩ = some (.string a0_0) := (blk_cell BK291.out 0).trans rfl
       have hcz19_1 : wc.cell? ⟨gb291, 1, none⟩ = some (.int .i64 a0_1) := (blk_cell BK291.out 1).trans rfl
       have hcz19_2 : wc.cell? ⟨gb291, 2, none⟩ = some (.bool a0_2) := (blk_cell BK291.out 2).trans rfl
       have hfz19_0 := blk_frozen BK291.out 0
       have hfz19_1 := blk_frozen BK291.out 1
       have hfz19_2 := blk_frozen BK291.out 2
       go_upto_if 42 with (first | (go_at_call 19; (with_reducible refine (sync_Encode.calls kj14 a0_0 a0_1 a0_2 _ _ l1 t294 t297 _ ?side1 ?side2 A17.out).mono ?_); (case side1 => repeat (first | exact (Kd.C_below HR1.out HB.out) | (with_reducible refine Kd.C_alloc ?_ _) | (with_reducible refine Kd.C_drewN ?_ _) | (with_reducible refine Kd.C_drew ?_))); (case side2 => exact HC1.out); rintro e w20 ⟨v295, rfl, ho0, hb⟩; have n0_ := Aside0.mk (Kd.R_lower ho0 (below_size (hbw HB.out))); have n1_ := Aside0.mk (blkb BK291.out hb); have n2_ := Aside0.mk (below_step (hbw HB.out) hb); clear BK291; clear HB; have HO296 := n0_; have BK291 := n1_; have HB := n2_; clear n0_ n1_ n2_; (try clear hb); (try clear hb2); (try clear hk); (try clear hi); (try clear ho0)))
       repeat (go_quiet (first | (go_at_call 19; (with_reducible refine (sync_Encode.calls kj14 a0_0 a0_1 a0_2 _ _ l1 t294 t297 _ ?side1 ?side2 A17.out).mono ?_); (case side1 => repeat (first | exact (Kd.C_below HR1.out HB.out) | (with_reducible refine Kd.C_alloc ?_ _) | (with_reducible refine Kd.C_drewN ?_ _) | (with_reducible refine Kd.C_drew ?_))); (case side2 => exact HC1.out); rintro e w20 ⟨v295, rfl, ho0, hb⟩; have n0_ := Aside0.mk (Kd.R_lower ho0 (below_size (hbw HB.out))); have n1_ := Aside0.mk (blkb BK291.out hb); have n2_ := Aside0.mk (below_step (hbw HB.out) hb); clear BK291; clear HB; have HO296 := n0_; have BK291 := n1_; have HB := n2_; clear n0_ n1_ n2_; (try clear hb); (try clear hb2); (try clear hk); (try clear hi); (try clear ho0))); go_upto_if 42 with (first | (go_at_call 19; (with_reducible refine (sync_Encode.calls kj14 a0_0 a0_1 a0_2 _ _ l1 t294 t297 _ ?side1 ?side2 A17.out).mono ?_); (case side1 => repeat (first | exact (Kd.C_below HR1.out HB.out) | (with_reducible refine Kd.C_alloc ?_ _) | (with_reducible refine Kd.C_drewN ?_ _) | (with_reducible refine Kd.C_drew ?_))); (case side2 => exact HC1.out); rintro e w20 ⟨v295, rfl, ho0, hb⟩; have n0_ := Aside0.mk (Kd.R_lower ho0 (below_size (hbw HB.out))); have n1_ := Aside0.mk (blkb BK291.out hb); have n2_ := Aside0.mk (below_step (hbw HB.out) hb); clear BK291; clear HB; have HO296 := n0_; have BK291 := n1_; have HB := n2_; clear n0_ n1_ n2_; (try clear hb); (try clear hb2); (try clear hk); (try clear hi); (try clear ho0))))
       (try simp only [Act.put, List.setIfInBounds_toArray, List.set_cons_zero, List.set_cons_succ])
       go_cut [] (fun wc => ∃ (kq : Nat), Aside0 (signalbenchlaw21_SyncAborts.j3 kq l1 a2 t294 a0_0 a0_1 a0_2 = some r) ∧ Aside0 (kq ≤ kj14) ∧ Aside0 (Kd.R k46 46 wc w.heap.size (fun _ => True) v295 t294) ∧ Aside0 (wc.heap[gb291]? = some (.cells #[.string a0_0, .int .i64 a0_1, .bool a0_2] 23 (0, 0))) ∧ Aside0 (Below w.heap.size w wc))
       case first => as_aux_lemma =>
        have H := HC18.out
        clear HC18
        by_cases c21 : t297 = 0
        ·rw [if_pos c21] at H
         have c21b0 : (t297 == 0) = true := beq_iff_eq.mpr c21
         have c21b1 : (t297 != 0) = false := bne_eq_false_iff_eq.mpr c21
         clear c21
         (first | rw [c21b0] | (simp only [i64_w, i32_w]; rw [c21b0]) | skip)
         have H' := Aside0.mk H
         clear H
         go_wp2
         repeat (go_quiet (fail); try go_wp2)
         go_meet
         case rel => exact ⟨_, H', ⟨by have := HJ4.out; have := HJ8.out; have := HJ14.out; first | omega | exact Nat.le_refl _⟩, ⟨by (with_reducible repeat (first | apply Kd.R_alloc | apply Kd.R_drewN | apply Kd.R_drew)); exact HO296.out⟩, ⟨by (with_reducible repeat (first | refine blk_drewN ?_ _ | refine blk_drew ?_ | refine blk_alloc ?_ _)); exact BK291.out⟩, ⟨by repeat (first | (with_reducible first | exact HB.out | apply below_alloc | apply pw_below_drewN | apply below_drew1 | refine below_set ?_ GE291.out) | exact HB.out)⟩⟩
        ·rw [if_neg c21] at H
         have c21b0 : (t297 == 0) = false := beq_eq_false_iff_ne.mpr c21
         have c21b1 : (t297 != 0) = true := bne_iff_ne.mpr c21
         (first | rw [c21b0] | (simp only [i64_w, i32_w]; rw [c21b0]) | skip)
         obtain rfl := Option.some.inj H
         obtain ⟨Ao22, co22, eo22⟩ := Kd.R_slice HO296.out
         subst eo22
         go_wp2
         repeat (go_quiet (fail); try go_wp2)
         go_ret
         exact ⟨by first | rfl | (simp [errW_none, errW_some] <;> rfl) | (simp [*, errW_none, errW_some] <;> rfl), by repeat (first | (with_reducible first | exact HB.out | apply below_alloc | apply pw_below_drewN | apply below_drew1 | refine below_set ?_ GE291.out) | exact HB.out)⟩
       case rest =>
        clear HC18
        try clear c1
        try clear c2
        try clear p2
        try clear c7
        try clear c8
        try clear c11
        try clear c12
        try clear c12b0
        try clear c12b1
        try clear c13
        try clear c13b0
        try clear c13b1
        try clear c16
        try clear c21
        try clear c21b0
        try clear c21b1
        try clear hcz14_0
        try clear hcz14_1
        try clear hcz14_2
        try clear hcz19_0
        try clear hcz19_1
        try clear hcz19_2
        try clear hfz14_0
        try clear hfz14_1
        try clear hfz14_2
        try clear hfz19_0
        try clear hfz19_1
        try clear hfz19_2
        try clear p2
        obtain ⟨kq, HA, HJ17, HO_7, BK291, HB⟩ := hcut
        cases kq with
        | zero => exact absurd HA.out (by simp [signalbenchlaw21_SyncAborts.j3])
        | succ kj17 =>
         have H := HA.out
         clear HA
         simp only [signalbenchlaw21_SyncAborts.j3] at H
         have HC23 := Aside0.mk H
         clear H
         go_upto_region 8 with (fail)
         repeat (go_quiet (fail); go_upto_region 8 with (fail))
         go_cut [71] (fun v71 wc => ∃ (kq : Nat) (x71_22 : Bool), v71 = .bool x71_22 ∧ Aside0 (signalbenchlaw21_SyncAborts.j4 kq l1 a2 t294 x71_22 a0_0 a0_1 a0_2 = some r) ∧ Aside0 (kq ≤ kj17) ∧ Aside0 (Kd.R k46 46 wc w.heap.size (fun _ => True) v295 t294) ∧ Aside0 (wc.heap[gb291]? = some (.cells #[.string a0_0, .int .i64 a0_1, .bool a0_2] 23 (0, 0))) ∧ Aside0 (Below w.heap.size w wc))
         case first => as_aux_lemma =>
          have H := HC23.out
          clear HC23
          replace H := Option.bind_eq_some_iff.mp H
          obtain ⟨t298, A240, H⟩ := H
          replace H : (if t298 = true then (if (t294.length : Int) = (l1.length : Int) then (if a2 < (a0_0.size : Int) then (signalbenchlaw21_SyncAborts.j4 kj17 l1 a2 t294 true a0_0 a0_1 a0_2) else (if 0 < (t294.length : Int) then (signalbenchlaw21_SyncAborts.j4 kj17 l1 a2 t294 (decide (a2 ≥ (((rd_T46 t294 0).f3).size : Int))) a0_0 a0_1 a0_2) else (none))) else (signalbenchlaw21_SyncAborts.j4 kj17 l1 a2 t294 true a0_0 a0_1 a0_2)) else (signalbenchlaw21_SyncAborts.j4 kj17 l1 a2 t294 true a0_0 a0_1 a0_2)) = some r := H
          have A24 := Aside0.mk A240
          clear A240
          by_cases c25 : t298 = true
          ·subst c25
           have H1 : (if (t294.length : Int) = (l1.length : Int) then (if a2 < (a0_0.size : Int) then (signalbenchlaw21_SyncAborts.j4 kj17 l1 a2 t294 true a0_0 a0_1 a0_2) else (if 0 < (t294.length : Int) then (signalbenchlaw21_SyncAborts.j4 kj17 l1 a2 t294 (decide (a2 ≥ (((rd_T46 t294 0).f3).size : Int))) a0_0 a0_1 a0_2) else (none))) else (signalbenchlaw21_SyncAborts.j4 kj17 l1 a2 t294 true a0_0 a0_1 a0_2)) = some r := by rw [if_pos rfl] at H; exact H
           clear H
           have H := H1
           clear H1
           by_cases c26 : (t294.length : Int) = (l1.length : Int)
           ·rw [if_pos c26] at H
            have c26b0 : ((t294.length : Int) == (l1.length : Int)) = true := beq_iff_eq.mpr c26
            have c26b1 : ((t294.length : Int) != (l1.length : Int)) = false := bne_eq_false_iff_eq.mpr c26
            have c26b2 : (t294.length == l1.length) = true := by first | simpa using c26 | (simp at c26 ⊢; omega)
            clear c26
            (first | rw [c26b0] | (simp only [i64_w, i32_w]; rw [c26b0]) | skip)
            by_cases c27 : a2 < (a0_0.size : Int)
            ·rw [if_pos c27] at H
             have c27b0 : decide (a2 < (a0_0.size : Int)) = true := decide_eq_true c27
             clear c27
             have H' := Aside0.mk H
             clear H
             obtain ⟨Ao28, co28, eo28⟩ := Kd.R_slice HO_7.out
             subst eo28
             go_wp2_with (first | (go_at_call 24; (with_reducible refine (signalbenchlaw21_bitItems.calls kj17 _ _ t294 true _ ?side1 ?side2 A24.out).mono ?_); (case side1 => repeat (first | exact (Kd.R_reads' HO_7.out).2.2 | (with_reducible refine Kd.C_alloc ?_ _) | (with_reducible refine Kd.C_drewN ?_ _) | (with_reducible refine Kd.C_drew ?_))); (case side2 => exact (Kd.R_reads' HO_7.out).2.1); rintro e w' ⟨rfl, ⟨nd, rfl⟩⟩; (try first | exact ⟨rfl, _, World.drewN_drewN _ _ _⟩ | exact ⟨rfl, _, Eq.trans (World.drewN_drewN _ _ _) (congrArg (World.drewN _) (Nat.add_assoc _ _ _))⟩); have hcz29_0 : wc.cell? ⟨gb291, 0, none⟩ = some (.string a0_0) := (blk_cell BK291.out 0).trans rfl; have hcz29_1 : wc.cell? ⟨gb291, 1, none⟩ = some (.int .i64 a0_1) := (blk_cell BK291.out 1).trans rfl; have hcz29_2 : wc.cell? ⟨gb291, 2, none⟩ = some (.bool a0_2) := (blk_cell BK291.out 2).trans rfl; have hfz29_0 := blk_frozen BK291.out 0; have hfz29_1 := blk_frozen BK291.out 1; have hfz29_2 := blk_frozen BK291.out 2))
             repeat (go_quiet (first | (go_at_call 24; (with_reducible refine (signalbenchlaw21_bitItems.calls kj17 _ _ t294 true _ ?side1 ?side2 A24.out).mono ?_); (case side1 => repeat (first | exact (Kd.R_reads' HO_7.out).2.2 | (with_reducible refine Kd.C_alloc ?_ _) | (with_reducible refine Kd.C_drewN ?_ _) | (with_reducible refine Kd.C_drew ?_))); (case side2 => exact (Kd.R_reads' HO_7.out).2.1); rintro e w' ⟨rfl, ⟨nd, rfl⟩⟩; (try first | exact ⟨rfl, _, World.drewN_drewN _ _ _⟩ | exact ⟨rfl, _, Eq.trans (World.drewN_drewN _ _ _) (congrArg (World.drewN _) (Nat.add_assoc _ _ _))⟩); have hcz29_0 : wc.cell? ⟨gb291, 0, none⟩ = some (.string a0_0) := (blk_cell BK291.out 0).trans rfl; have hcz29_1 : wc.cell? ⟨gb291, 1, none⟩ = some (.int .i64 a0_1) := (blk_cell BK291.out 1).trans rfl; have hcz29_2 : wc.cell? ⟨gb291, 2, none⟩ = some (.bool a0_2) := (blk_cell BK291.out 2).trans rfl; have hfz29_0 := blk_frozen BK291.out 0; have hfz29_1 := blk_frozen BK291.out 1; have hfz29_2 := blk_frozen BK291.out 2)); try go_wp2_with (first | (go_at_call 24; (with_reducible refine (signalbenchlaw21_bitItems.calls kj17 _ _ t294 true _ ?side1 ?side2 A24.out).mono ?_); (case side1 => repeat (first | exact (Kd.R_reads' HO_7.out).2.2 | (with_reducible refine Kd.C_alloc ?_ _) | (with_reducible refine Kd.C_drewN ?_ _) | (with_reducible refine Kd.C_drew ?_))); (case side2 => exact (Kd.R_reads' HO_7.out).2.1); rintro e w' ⟨rfl, ⟨nd, rfl⟩⟩; (try first | exact ⟨rfl, _, World.drewN_drewN _ _ _⟩ | exact ⟨rfl, _, Eq.trans (World.drewN_drewN _ _ _) (congrArg (World.drewN _) (Nat.add_assoc _ _ _))⟩); have hcz29_0 : wc.cell? ⟨gb291, 0, none⟩ = some (.string a0_0) := (blk_cell BK291.out 0).trans rfl; have hcz29_1 : wc.cell? ⟨gb291, 1, none⟩ = some (.int .i64 a0_1) := (blk_cell BK291.out 1).trans rfl; have hcz29_2 : wc.cell? ⟨gb291, 2, none⟩ = some (.bool a0_2) := (blk_cell BK291.out 2).trans rfl; have hfz29_0 := blk_frozen BK291.out 0; have hfz29_1 := blk_frozen BK291.out 1; have hfz29_2 := blk_frozen BK291.out 2)))
             go_meet
             case rel => exact ⟨_, (true), (by first | rfl | (simp; done) | (simp [*]; done)), H', ⟨by have := HJ4.out; have := HJ8.out; have := HJ14.out; have := HJ17.out; first | omega | exact Nat.le_refl _⟩, ⟨by (with_reducible repeat (first | apply Kd.R_alloc | apply Kd.R_drewN | apply Kd.R_drew)); exact HO_7.out⟩, ⟨by (with_reducible repeat (first | refine blk_drewN ?_ _ | refine blk_drew ?_ | refine blk_alloc ?_ _)); exact BK291.out⟩, ⟨by repeat (first | (with_reducible first | exact HB.out | apply below_alloc | apply pw_below_drewN | apply below_drew1 | refine below_set ?_ GE291.out) | exact HB.out)⟩⟩
            ·rw [if_neg c27] at H
             have c27b0 : decide (a2 < (a0_0.size : Int)) = false := decide_eq_false c27
             clear c27
             by_cases c30 : 0 < (t294.length : Int)
             ·rw [if_pos c30] at H
              have c30b0 : decide (0 < (t294.length : Int)) = true := decide_eq_true c30
              have c30b1 : decide (0 < t294.length) = true := decide_eq_true (by omega)
              clear c30
              have H' := Aside0.mk H
              clear H
              obtain ⟨Ao31, co31, eo31⟩ := Kd.R_slice HO_7.out
              subst eo31
              go_wp2_with (first | (go_at_call 24; (with_reducible refine (signalbenchlaw21_bitItems.calls kj17 _ _ t294 true _ ?side1 ?side2 A24.out).mono ?_); (case side1 => repeat (first | exact (Kd.R_reads' HO_7.out).2.2 | (with_reducible refine Kd.C_alloc ?_ _) | (with_reducible refine Kd.C_drewN ?_ _) | (with_reducible refine Kd.C_drew ?_))); (case side2 => exact (Kd.R_reads' HO_7.out).2.1); rintro e w' ⟨rfl, ⟨nd, rfl⟩⟩; (try first | exact ⟨rfl, _, World.drewN_drewN _ _ _⟩ | exact ⟨rfl, _, Eq.trans (World.drewN_drewN _ _ _) (congrArg (World.drewN _) (Nat.add_assoc _ _ _))⟩); have hcz32_0 : wc.cell? ⟨gb291, 0, none⟩ = some (.string a0_0) := (blk_cell BK291.out 0).trans rfl; have hcz32_1 : wc.cell? ⟨gb291, 1, none⟩ = some (.int .i64 a0_1) := (blk_cell BK291.out 1).trans rfl; have hcz32_2 : wc.cell? ⟨gb291, 2, none⟩ = some (.bool a0_2) := (blk_cell BK291.out 2).trans rfl; have hfz32_0 := blk_frozen BK291.out 0; have hfz32_1 := blk_frozen BK291.out 1; have hfz32_2 := blk_frozen BK291.out 2; have p299 : 0 ≤ (0 : Int) := (by omega); have q299 : 0 < (t294.length : Int) := of_decide_eq_true (by first | (with_reducible assumption) | assumption); obtain ⟨ad299, e299, hx299_0, hx299_1, hx299_2, hx299_3, hx299_4⟩ := at_T46 (Kd.R_reads' HO_7.out).2.2 0 p299 q299; cases e299; have qi299 : (0 < t294.length) = True := eq_true (by omega); (try rw [show ((0 : Int)).toNat = 0 from rfl] at hx299_0); (try rw [show 0 * 5 = 0 from rfl] at hx299_0); (try rw [Addr.add_zero'] at hx299_0); (try rw [show ((0 : Int)).toNat = 0 from rfl] at hx299_1); (try rw [show 0 * 5 = 0 from rfl] at hx299_1); (try rw [Addr.add_zero'] at hx299_1); (try rw [show ((0 : Int)).toNat = 0 from rfl] at hx299_2); (try rw [show 0 * 5 = 0 from rfl] at hx299_2); (try rw [Addr.add_zero'] at hx299_2); (try rw [show ((0 : Int)).toNat = 0 from rfl] at hx299_3); (try rw [show 0 * 5 = 0 from rfl] at hx299_3); (try rw [Addr.add_zero'] at hx299_3); (try rw [show ((0 : Int)).toNat = 0 from rfl] at hx299_4); (try rw [show 0 * 5 = 0 from rfl] at hx299_4); (try rw [Addr.add_zero'] at hx299_4); replace p299 := eq_true p299; replace q299 := eq_true q299))
              repeat (go_quiet (first | (go_at_call 24; (with_reducible refine (signalbenchlaw21_bitItems.calls kj17 _ _ t294 true _ ?side1 ?side2 A24.out).mono ?_); (case side1 => repeat (first | exact (Kd.R_reads' HO_7.out).2.2 | (with_reducible refine Kd.C_alloc ?_ _) | (with_reducible refine Kd.C_drewN ?_ _) | (with_reducible refine Kd.C_drew ?_))); (case side2 => exact (Kd.R_reads' HO_7.out).2.1); rintro e w' ⟨rfl, ⟨nd, rfl⟩⟩; (try first | exact ⟨rfl, _, World.drewN_drewN _ _ _⟩ | exact ⟨rfl, _, Eq.trans (World.drewN_drewN _ _ _) (congrArg (World.drewN _) (Nat.add_assoc _ _ _))⟩); have hcz32_0 : wc.cell? ⟨gb291, 0, none⟩ = some (.string a0_0) := (blk_cell BK291.out 0).trans rfl; have hcz32_1 : wc.cell? ⟨gb291, 1, none⟩ = some (.int .i64 a0_1) := (blk_cell BK291.out 1).trans rfl; have hcz32_2 : wc.cell? ⟨gb291, 2, none⟩ = some (.bool a0_2) := (blk_cell BK291.out 2).trans rfl; have hfz32_0 := blk_frozen BK291.out 0; have hfz32_1 := blk_frozen BK291.out 1; have hfz32_2 := blk_frozen BK291.out 2; have p299 : 0 ≤ (0 : Int) := (by omega); have q299 : 0 < (t294.length : Int) := of_decide_eq_true (by first | (with_reducible assumption) | assumption); obtain ⟨ad299, e299, hx299_0, hx299_1, hx299_2, hx299_3, hx299_4⟩ := at_T46 (Kd.R_reads' HO_7.out).2.2 0 p299 q299; cases e299; have qi299 : (0 < t294.length) = True := eq_true (by omega); (try rw [show ((0 : Int)).toNat = 0 from rfl] at hx299_0); (try rw [show 0 * 5 = 0 from rfl] at hx299_0); (try rw [Addr.add_zero'] at hx299_0); (try rw [show ((0 : Int)).toNat = 0 from rfl] at hx299_1); (try rw [show 0 * 5 = 0 from rfl] at hx299_1); (try rw [Addr.add_zero'] at hx299_1); (try rw [show ((0 : Int)).toNat = 0 from rfl] at hx299_2); (try rw [show 0 * 5 = 0 from rfl] at hx299_2); (try rw [Addr.add_zero'] at hx299_2); (try rw [show ((0 : Int)).toNat = 0 from rfl] at hx299_3); (try rw [show 0 * 5 = 0 from rfl] at hx299_3); (try rw [Addr.add_zero'] at hx299_3); (try rw [show ((0 : Int)).toNat = 0 from rfl] at hx299_4); (try rw [show 0 * 5 = 0 from rfl] at hx299_4); (try rw [Addr.add_zero'] at hx299_4); replace p299 := eq_true p299; replace q299 := eq_true q299)); try go_wp2_with (first | (go_at_call 24; (with_reducible refine (signalbenchlaw21_bitItems.calls kj17 _ _ t294 true _ ?side1 ?side2 A24.out).mono ?_); (case side1 => repeat (first | exact (Kd.R_reads' HO_7.out).2.2 | (with_reducible refine Kd.C_alloc ?_ _) | (with_reducible refine Kd.C_drewN ?_ _) | (with_reducible refine Kd.C_drew ?_))); (case side2 => exact (Kd.R_reads' HO_7.out).2.1); rintro e w' ⟨rfl, ⟨nd, rfl⟩⟩; (try first | exact ⟨rfl, _, World.drewN_drewN _ _ _⟩ | exact ⟨rfl, _, Eq.trans (World.drewN_drewN _ _ _) (congrArg (World.drewN _) (Nat.add_assoc _ _ _))⟩); have hcz32_0 : wc.cell? ⟨gb291, 0, none⟩ = some (.string a0_0) := (blk_cell BK291.out 0).trans rfl; have hcz32_1 : wc.cell? ⟨gb291, 1, none⟩ = some (.int .i64 a0_1) := (blk_cell BK291.out 1).trans rfl; have hcz32_2 : wc.cell? ⟨gb291, 2, none⟩ = some (.bool a0_2) := (blk_cell BK291.out 2).trans rfl; have hfz32_0 := blk_frozen BK291.out 0; have hfz32_1 := blk_frozen BK291.out 1; have hfz32_2 := blk_frozen BK291.out 2; have p299 : 0 ≤ (0 : Int) := (by omega); have q299 : 0 < (t294.length : Int) := of_decide_eq_true (by first | (with_reducible assumption) | assumption); obtain ⟨ad299, e299, hx299_0, hx299_1, hx299_2, hx299_3, hx299_4⟩ := at_T46 (Kd.R_reads' HO_7.out).2.2 0 p299 q299; cases e299; have qi299 : (0 < t294.length) = True := eq_true (by omega); (try rw [show ((0 : Int)).toNat = 0 from rfl] at hx299_0); (try rw [show 0 * 5 = 0 from rfl] at hx299_0); (try rw [Addr.add_zero'] at hx299_0); (try rw [show ((0 : Int)).toNat = 0 from rfl] at hx299_1); (try rw [show 0 * 5 = 0 from rfl] at hx299_1); (try rw [Addr.add_zero'] at hx299_1); (try rw [show ((0 : Int)).toNat = 0 from rfl] at hx299_2); (try rw [show 0 * 5 = 0 from rfl] at hx299_2); (try rw [Addr.add_zero'] at hx299_2); (try rw [show ((0 : Int)).toNat = 0 from rfl] at hx299_3); (try rw [show 0 * 5 = 0 from rfl] at hx299_3); (try rw [Addr.add_zero'] at hx299_3); (try rw [show ((0 : Int)).toNat = 0 from rfl] at hx299_4); (try rw [show 0 * 5 = 0 from rfl] at hx299_4); (try rw [Addr.add_zero'] at hx299_4); replace p299 := eq_true p299; replace q299 := eq_true q299)))
              go_meet
              case rel => exact ⟨_, (decide (a2 ≥ (((rd_T46 t294 0).f3).size : Int))), (by first | rfl | (simp; done) | (simp [*]; done)), H', ⟨by have := HJ4.out; have := HJ8.out; have := HJ14.out; have := HJ17.out; first | omega | exact Nat.le_refl _⟩, ⟨by (with_reducible repeat (first | apply Kd.R_alloc | apply Kd.R_drewN | apply Kd.R_drew)); exact HO_7.out⟩, ⟨by (with_reducible repeat (first | refine blk_drewN ?_ _ | refine blk_drew ?_ | refine blk_alloc ?_ _)); exact BK291.out⟩, ⟨by repeat (first | (with_reducible first | exact HB.out | apply below_alloc | apply pw_below_drewN | apply below_drew1 | refine below_set ?_ GE291.out) | exact HB.out)⟩⟩
             ·rw [if_neg c30] at H
              exact absurd H (by simp)
           ·rw [if_neg c26] at H
            have c26b0 : ((t294.length : Int) == (l1.length : Int)) = false := beq_eq_false_iff_ne.mpr c26
            have c26b1 : ((t294.length : Int) != (l1.length : Int)) = true := bne_iff_ne.mpr c26
            have c26b2 : (t294.length == l1.length) = false := by first | simpa using c26 | (simp at c26 ⊢; omega)
            (first | rw [c26b0] | (simp only [i64_w, i32_w]; rw [c26b0]) | skip)
            have H' := Aside0.mk H
            clear H
            obtain ⟨Ao33, co33, eo33⟩ := Kd.R_slice HO_7.out
            subst eo33
            go_wp2_with (first | (go_at_call 24; (with_reducible refine (signalbenchlaw21_bitItems.calls kj17 _ _ t294 true _ ?side1 ?side2 A24.out).mono ?_); (case side1 => repeat (first | exact (Kd.R_reads' HO_7.out).2.2 | (with_reducible refine Kd.C_alloc ?_ _) | (with_reducible refine Kd.C_drewN ?_ _) | (with_reducible refine Kd.C_drew ?_))); (case side2 => exact (Kd.R_reads' HO_7.out).2.1); rintro e w' ⟨rfl, ⟨nd, rfl⟩⟩; (try first | exact ⟨rfl, _, World.drewN_drewN _ _ _⟩ | exact ⟨rfl, _, Eq.trans (World.drewN_drewN _ _ _) (congrArg (World.drewN _) (Nat.add_assoc _ _ _))⟩)))
            repeat (go_quiet (first | (go_at_call 24; (with_reducible refine (signalbenchlaw21_bitItems.calls kj17 _ _ t294 true _ ?side1 ?side2 A24.out).mono ?_); (case side1 => repeat (first | exact (Kd.R_reads' HO_7.out).2.2 | (with_reducible refine Kd.C_alloc ?_ _) | (with_reducible refine Kd.C_drewN ?_ _) | (with_reducible refine Kd.C_drew ?_))); (case side2 => exact (Kd.R_reads' HO_7.out).2.1); rintro e w' ⟨rfl, ⟨nd, rfl⟩⟩; (try first | exact ⟨rfl, _, World.drewN_drewN _ _ _⟩ | exact ⟨rfl, _, Eq.trans (World.drewN_drewN _ _ _) (congrArg (World.drewN _) (Nat.add_assoc _ _ _))⟩))); try go_wp2_with (first | (go_at_call 24; (with_reducible refine (signalbenchlaw21_bitItems.calls kj17 _ _ t294 true _ ?side1 ?side2 A24.out).mono ?_); (case side1 => repeat (first | exact (Kd.R_reads' HO_7.out).2.2 | (with_reducible refine Kd.C_alloc ?_ _) | (with_reducible refine Kd.C_drewN ?_ _) | (with_reducible refine Kd.C_drew ?_))); (case side2 => exact (Kd.R_reads' HO_7.out).2.1); rintro e w' ⟨rfl, ⟨nd, rfl⟩⟩; (try first | exact ⟨rfl, _, World.drewN_drewN _ _ _⟩ | exact ⟨rfl, _, Eq.trans (World.drewN_drewN _ _ _) (congrArg (World.drewN _) (Nat.add_assoc _ _ _))⟩))))
            go_meet
            case rel => exact ⟨_, (true), (by first | rfl | (simp; done) | (simp [*]; done)), H', ⟨by have := HJ4.out; have := HJ8.out; have := HJ14.out; have := HJ17.out; first | omega | exact Nat.le_refl _⟩, ⟨by (with_reducible repeat (first | apply Kd.R_alloc | apply Kd.R_drewN | apply Kd.R_drew)); exact HO_7.out⟩, ⟨by (with_reducible repeat (first | refine blk_drewN ?_ _ | refine blk_drew ?_ | refine blk_alloc ?_ _)); exact BK291.out⟩, ⟨by repeat (first | (with_reducible first | exact HB.out | apply below_alloc | apply pw_below_drewN | apply below_drew1 | refine below_set ?_ GE291.out) | exact HB.out)⟩⟩
          ·replace c25 := Bool.eq_false_iff.mpr c25
           subst c25
           have H1 : (signalbenchlaw21_SyncAborts.j4 kj17 l1 a2 t294 true a0_0 a0_1 a0_2) = some r := by rw [if_neg (show ¬ (false = true) by decide)] at H; exact H
           clear H
           have H := H1
           clear H1
           have H' := Aside0.mk H
           clear H
           obtain ⟨Ao34, co34, eo34⟩ := Kd.R_slice HO_7.out
           subst eo34
           go_wp2_with (first | (go_at_call 24; (with_reducible refine (signalbenchlaw21_bitItems.calls kj17 _ _ t294 false _ ?side1 ?side2 A24.out).mono ?_); (case side1 => repeat (first | exact (Kd.R_reads' HO_7.out).2.2 | (with_reducible refine Kd.C_alloc ?_ _) | (with_reducible refine Kd.C_drewN ?_ _) | (with_reducible refine Kd.C_drew ?_))); (case side2 => exact (Kd.R_reads' HO_7.out).2.1); rintro e w' ⟨rfl, ⟨nd, rfl⟩⟩; (try first | exact ⟨rfl, _, World.drewN_drewN _ _ _⟩ | exact ⟨rfl, _, Eq.trans (World.drewN_drewN _ _ _) (congrArg (World.drewN _) (Nat.add_assoc _ _ _))⟩)))
           repeat (go_quiet (first | (go_at_call 24; (with_reducible refine (signalbenchlaw21_bitItems.calls kj17 _ _ t294 false _ ?side1 ?side2 A24.out).mono ?_); (case side1 => repeat (first | exact (Kd.R_reads' HO_7.out).2.2 | (with_reducible refine Kd.C_alloc ?_ _) | (with_reducible refine Kd.C_drewN ?_ _) | (with_reducible refine Kd.C_drew ?_))); (case side2 => exact (Kd.R_reads' HO_7.out).2.1); rintro e w' ⟨rfl, ⟨nd, rfl⟩⟩; (try first | exact ⟨rfl, _, World.drewN_drewN _ _ _⟩ | exact ⟨rfl, _, Eq.trans (World.drewN_drewN _ _ _) (congrArg (World.drewN _) (Nat.add_assoc _ _ _))⟩))); try go_wp2_with (first | (go_at_call 24; (with_reducible refine (signalbenchlaw21_bitItems.calls kj17 _ _ t294 false _ ?side1 ?side2 A24.out).mono ?_); (case side1 => repeat (first | exact (Kd.R_reads' HO_7.out).2.2 | (with_reducible refine Kd.C_alloc ?_ _) | (with_reducible refine Kd.C_drewN ?_ _) | (with_reducible refine Kd.C_drew ?_))); (case side2 => exact (Kd.R_reads' HO_7.out).2.1); rintro e w' ⟨rfl, ⟨nd, rfl⟩⟩; (try first | exact ⟨rfl, _, World.drewN_drewN _ _ _⟩ | exact ⟨rfl, _, Eq.trans (World.drewN_drewN _ _ _) (congrArg (World.drewN _) (Nat.add_assoc _ _ _))⟩))))
           go_meet
           case rel => exact ⟨_, (true), (by first | rfl | (simp; done) | (simp [*]; done)), H', ⟨by have := HJ4.out; have := HJ8.out; have := HJ14.out; have := HJ17.out; first | omega | exact Nat.le_refl _⟩, ⟨by (with_reducible repeat (first | apply Kd.R_alloc | apply Kd.R_drewN | apply Kd.R_drew)); exact HO_7.out⟩, ⟨by (with_reducible repeat (first | refine blk_drewN ?_ _ | refine blk_drew ?_ | refine blk_alloc ?_ _)); exact BK291.out⟩, ⟨by repeat (first | (with_reducible first | exact HB.out | apply below_alloc | apply pw_below_drewN | apply below_drew1 | refine below_set ?_ GE291.out) | exact HB.out)⟩⟩
         case rest =>
          clear HC23
          try clear c1
          try clear c2
          try clear p2
          try clear q2
          try clear hx2
          try clear qi2
          try clear c3
          try clear c7
          try clear c8
          try clear c11
          try clear c12
          try clear c12b0
          try clear c12b1
          try clear c13
          try clear c13b0
          try clear c13b1
          try clear c16
          try clear c21
          try clear c21b0
          try clear c21b1
          try clear c25
          try clear c26
          try clear c26b0
          try clear c26b1
          try clear c26b2
          try clear c27
          try clear c27b0
          try clear p29
          try clear q29
          try clear hx29
          try clear qi29
          try clear c30
          try clear c30b0
          try clear c30b1
          try clear hcz14_0
          try clear hcz14_1
          try clear hcz14_2
          try clear hcz19_0
          try clear hcz19_1
          try clear hcz19_2
          try clear hcz29_0
          try clear hcz29_1
          try clear hcz29_2
          try clear hcz32_0
          try clear hcz32_1
          try clear hcz32_2
          try clear hfz14_0
          try clear hfz14_1
          try clear hfz14_2
          try clear hfz19_0
          try clear hfz19_1
          try clear hfz19_2
          try clear hfz29_0
          try clear hfz29_1
          try clear hfz29_2
          try clear hfz32_0
          try clear hfz32_1
          try clear hfz32_2
          try clear hx299_0
          try clear hx299_1
          try clear hx299_2
          try clear hx299_3
          try clear hx299_4
          try clear p2
          try clear p299
          try clear q299
          obtain ⟨kq, x71_22, rfl, HA, HJ22, HO_7, BK291, HB⟩ := hcut
          cases kq with
          | zero => exact absurd HA.out (by simp [signalbenchlaw21_SyncAborts.j4])
          | succ kj22 =>
           have H := HA.out
           clear HA
           simp only [signalbenchlaw21_SyncAborts.j4] at H
           have HC35 := Aside0.mk H
           clear H
           go_upto_if 71 with (fail)
           repeat (go_quiet (fail); go_upto_if 71 with (fail))
           go_cut [] (fun wc => ∃ (kq : Nat), Aside0 (signalbenchlaw21_SyncAborts.j5 kq l1 a2 t294 a0_0 a0_1 a0_2 = some r) ∧ Aside0 (kq ≤ kj22) ∧ Aside0 (Kd.R k46 46 wc w.heap.size (fun _ => True) v295 t294) ∧ Aside0 (wc.heap[gb291]? = some (.cells #[.string a0_0, .int .i64 a0_1, .bool a0_2] 23 (0, 0))) ∧ Aside0 (Below w.heap.size w wc))
           case first => as_aux_lemma =>
            have H := HC35.out
            clear HC35
            by_cases c36 : x71_22 = true
            ·subst c36
             have H1 : ((signalbenchlaw21_bitItems.f kj22 t294).bind fun t300 => (if t300 = true then (some ((t294.length : Int) == (l1.length : Int))) else (some false))) = some r := by rw [if_pos rfl] at H; exact H
             clear H
             have H := H1
             clear H1
             replace H := Option.bind_eq_some_iff.mp H
             obtain ⟨t300, A370, H⟩ := H
             replace H : (if t300 = true then (some ((t294.length : Int) == (l1.length : Int))) else (some false)) = some r := H
             have A37 := Aside0.mk A370
             clear A370
             by_cases c38 : t300 = true
             ·subst c38
              have H1 : (some ((t294.length : Int) == (l1.length : Int))) = some r := by rw [if_pos rfl] at H; exact H
              clear H
              have H := H1
              clear H1
              obtain rfl := Option.some.inj H
              obtain ⟨Ao39, co39, eo39⟩ := Kd.R_slice HO_7.out
              subst eo39
              go_wp2_with (first | (go_at_call 24; (with_reducible refine (signalbenchlaw21_bitItems.calls kj22 _ _ t294 true _ ?side1 ?side2 A37.out).mono ?_); (case side1 => repeat (first | exact (Kd.R_reads' HO_7.out).2.2 | (with_reducible refine Kd.C_alloc ?_ _) | (with_reducible refine Kd.C_drewN ?_ _) | (with_reducible refine Kd.C_drew ?_))); (case side2 => exact (Kd.R_reads' HO_7.out).2.1); rintro e w' ⟨rfl, ⟨nd, rfl⟩⟩; (try first | exact ⟨rfl, _, World.drewN_drewN _ _ _⟩ | exact ⟨rfl, _, Eq.trans (World.drewN_drewN _ _ _) (congrArg (World.drewN _) (Nat.add_assoc _ _ _))⟩)))
              repeat (go_quiet (first | (go_at_call 24; (with_reducible refine (signalbenchlaw21_bitItems.calls kj22 _ _ t294 true _ ?side1 ?side2 A37.out).mono ?_); (case side1 => repeat (first | exact (Kd.R_reads' HO_7.out).2.2 | (with_reducible refine Kd.C_alloc ?_ _) | (with_reducible refine Kd.C_drewN ?_ _) | (with_reducible refine Kd.C_drew ?_))); (case side2 => exact (Kd.R_reads' HO_7.out).2.1); rintro e w' ⟨rfl, ⟨nd, rfl⟩⟩; (try first | exact ⟨rfl, _, World.drewN_drewN _ _ _⟩ | exact ⟨rfl, _, Eq.trans (World.drewN_drewN _ _ _) (congrArg (World.drewN _) (Nat.add_assoc _ _ _))⟩))); try go_wp2_with (first | (go_at_call 24; (with_reducible refine (signalbenchlaw21_bitItems.calls kj22 _ _ t294 true _ ?side1 ?side2 A37.out).mono ?_); (case side1 => repeat (first | exact (Kd.R_reads' HO_7.out).2.2 | (with_reducible refine Kd.C_alloc ?_ _) | (with_reducible refine Kd.C_drewN ?_ _) | (with_reducible refine Kd.C_drew ?_))); (case side2 => exact (Kd.R_reads' HO_7.out).2.1); rintro e w' ⟨rfl, ⟨nd, rfl⟩⟩; (try first | exact ⟨rfl, _, World.drewN_drewN _ _ _⟩ | exact ⟨rfl, _, Eq.trans (World.drewN_drewN _ _ _) (congrArg (World.drewN _) (Nat.add_assoc _ _ _))⟩))))
              go_ret
              exact ⟨by first | rfl | (simp [errW_none, errW_some] <;> rfl) | (simp [*, errW_none, errW_some] <;> rfl), by repeat (first | (with_reducible first | exact HB.out | apply below_alloc | apply pw_below_drewN | apply below_drew1 | refine below_set ?_ GE291.out) | exact HB.out)⟩
             ·replace c38 := Bool.eq_false_iff.mpr c38
              subst c38
              have H1 : (some false) = some r := by rw [if_neg (show ¬ (false = true) by decide)] at H; exact H
              clear H
              have H := H1
              clear H1
              obtain rfl := Option.some.inj H
              obtain ⟨Ao40, co40, eo40⟩ := Kd.R_slice HO_7.out
              subst eo40
              go_wp2_with (first | (go_at_call 24; (with_reducible refine (signalbenchlaw21_bitItems.calls kj22 _ _ t294 false _ ?side1 ?side2 A37.out).mono ?_); (case side1 => repeat (first | exact (Kd.R_reads' HO_7.out).2.2 | (with_reducible refine Kd.C_alloc ?_ _) | (with_reducible refine Kd.C_drewN ?_ _) | (with_reducible refine Kd.C_drew ?_))); (case side2 => exact (Kd.R_reads' HO_7.out).2.1); rintro e w' ⟨rfl, ⟨nd, rfl⟩⟩; (try first | exact ⟨rfl, _, World.drewN_drewN _ _ _⟩ | exact ⟨rfl, _, Eq.trans (World.drewN_drewN _ _ _) (congrArg (World.drewN _) (Nat.add_assoc _ _ _))⟩)))
              repeat (go_quiet (first | (go_at_call 24; (with_reducible refine (signalbenchlaw21_bitItems.calls kj22 _ _ t294 false _ ?side1 ?side2 A37.out).mono ?_); (case side1 => repeat (first | exact (Kd.R_reads' HO_7.out).2.2 | (with_reducible refine Kd.C_alloc ?_ _) | (with_reducible refine Kd.C_drewN ?_ _) | (with_reducible refine Kd.C_drew ?_))); (case side2 => exact (Kd.R_reads' HO_7.out).2.1); rintro e w' ⟨rfl, ⟨nd, rfl⟩⟩; (try first | exact ⟨rfl, _, World.drewN_drewN _ _ _⟩ | exact ⟨rfl, _, Eq.trans (World.drewN_drewN _ _ _) (congrArg (World.drewN _) (Nat.add_assoc _ _ _))⟩))); try go_wp2_with (first | (go_at_call 24; (with_reducible refine (signalbenchlaw21_bitItems.calls kj22 _ _ t294 false _ ?side1 ?side2 A37.out).mono ?_); (case side1 => repeat (first | exact (Kd.R_reads' HO_7.out).2.2 | (with_reducible refine Kd.C_alloc ?_ _) | (with_reducible refine Kd.C_drewN ?_ _) | (with_reducible refine Kd.C_drew ?_))); (case side2 => exact (Kd.R_reads' HO_7.out).2.1); rintro e w' ⟨rfl, ⟨nd, rfl⟩⟩; (try first | exact ⟨rfl, _, World.drewN_drewN _ _ _⟩ | exact ⟨rfl, _, Eq.trans (World.drewN_drewN _ _ _) (congrArg (World.drewN _) (Nat.add_assoc _ _ _))⟩))))
              go_ret
              exact ⟨by first | rfl | (simp [errW_none, errW_some] <;> rfl) | (simp [*, errW_none, errW_some] <;> rfl), by repeat (first | (with_reducible first | exact HB.out | apply below_alloc | apply pw_below_drewN | apply below_drew1 | refine below_set ?_ GE291.out) | exact HB.out)⟩
            ·replace c36 := Bool.eq_false_iff.mpr c36
             subst c36
             have H1 : (signalbenchlaw21_SyncAborts.j5 kj22 l1 a2 t294 a0_0 a0_1 a0_2) = some r := by rw [if_neg (show ¬ (false = true) by decide)] at H; exact H
             clear H
             have H := H1
             clear H1
             have H' := Aside0.mk H
             clear H
             go_wp2
             repeat (go_quiet (fail); try go_wp2)
             go_meet
             case rel => exact ⟨_, H', ⟨by have := HJ4.out; have := HJ8.out; have := HJ14.out; have := HJ17.out; have := HJ22.out; first | omega | exact Nat.le_refl _⟩, ⟨by (with_reducible repeat (first | apply Kd.R_alloc | apply Kd.R_drewN | apply Kd.R_drew)); exact HO_7.out⟩, ⟨by (with_reducible repeat (first | refine blk_drewN ?_ _ | refine blk_drew ?_ | refine blk_alloc ?_ _)); exact BK291.out⟩, ⟨by repeat (first | (with_reducible first | exact HB.out | apply below_alloc | apply pw_below_drewN | apply below_drew1 | refine below_set ?_ GE291.out) | exact HB.out)⟩⟩
           case rest =>
            clear HC35
            try clear c1
            try clear c2
            try clear p2
            try clear q2
            try clear hx2
            try clear qi2
            try clear c3
            try clear c7
            try clear c8
            try clear c11
            try clear c12
            try clear c12b0
            try clear c12b1
            try clear c13
            try clear c13b0
            try clear c13b1
            try clear c16
            try clear c21
            try clear c21b0
            try clear c21b1
            try clear c25
            try clear c26
            try clear c26b0
            try clear c26b1
            try clear c26b2
            try clear c27
            try clear c27b0
            try clear p29
            try clear q29
            try clear hx29
            try clear qi29
            try clear c30
            try clear c30b0
            try clear c30b1
            try clear c36
            try clear c38
            try clear hcz14_0
            try clear hcz14_1
            try clear hcz14_2
            try clear hcz19_0
            try clear hcz19_1
            try clear hcz19_2
            try clear hcz29_0
            try clear hcz29_1
            try clear hcz29_2
            try clear hcz32_0
            try clear hcz32_1
            try clear hcz32_2
            try clear hfz14_0
            try clear hfz14_1
            try clear hfz14_2
            try clear hfz19_0
            try clear hfz19_1
            try clear hfz19_2
            try clear hfz29_0
            try clear hfz29_1
            try clear hfz29_2
            try clear hfz32_0
            try clear hfz32_1
            try clear hfz32_2
            try clear hx299_0
            try clear hx299_1
            try clear hx299_2
            try clear hx299_3
            try clear hx299_4
            try clear p2
            try clear p29
            try clear p299
            try clear q2
            try clear q29
            try clear q299
            obtain ⟨kq, HA, HJ34, HO_7, BK291, HB⟩ := hcut
            cases kq with
            | zero => exact absurd HA.out (by simp [signalbenchlaw21_SyncAborts.j5])
            | succ kj34 =>
             have H := HA.out
             clear HA
             simp only [signalbenchlaw21_SyncAborts.j5] at H
             replace H := Option.bind_eq_some_iff.mp H
             obtain ⟨t301, A410, H⟩ := H
             replace H : (if 0 ≤ a2 then (if a2 < (t301.length : Int) then ((some (t301.set (a2 : Int).toNat (⟨(rd_T32 t301 a2).f0, (rd_T32 t301 a2).f1, (rd_T32 t301 a2).f2, (rd_T32 t301 a2).f3, (rd_T32 t301 a2).f4, (rd_T32 t301 a2).f5, 6⟩ : S32) : List (S32))).bind fun y304 => (if 0 < (t294.length : Int) then (if 0 ≤ (wrap64 (a2 + 1)) then (if (wrap64 (a2 + 1)) ≤ (((rd_T46 t294 0).f3).size : Int) then (if (t294.length : Int) > 1 then (if 1 < (t294.length : Int) then (if (((rd_T46 t294 0).f3).extract ((wrap64 (a2 + 1)) : Int).toNat ((rd_T46 t294 0).f3).size).size + ((rd_T46 t294 1).f3).size ≤ 9223372036854775807 then (signalbenchlaw21_SyncAborts.j6 kj34 l1 a2 t294 y304 ((((rd_T46 t294 0).f3).extract ((wrap64 (a2 + 1)) : Int).toNat ((rd_T46 t294 0).f3).size) ++ ((rd_T46 t294 1).f3)) a0_0 a0_1 a0_2) else (none)) else (none)) else (signalbenchlaw21_SyncAborts.j6 kj34 l1 a2 t294 y304 (((rd_T46 t294 0).f3).extract ((wrap64 (a2 + 1)) : Int).toNat ((rd_T46 t294 0).f3).size) a0_0 a0_1 a0_2)) else (none)) else (none)) else (none))) else (none)) else (none)) = some r := H
             have A41 := Aside0.mk A410
             clear A410
             by_cases c42 : 0 ≤ a2
             ·rw [if_pos c42] at H
              have c42b0 : decide (0 ≤ a2) = true := decide_eq_true c42
              clear c42
              by_cases c43 : a2 < (t301.length : Int)
              ·rw [if_pos c43] at H
               have c43b0 : decide (a2 < (t301.length : Int)) = true := decide_eq_true c43
               clear c43
               obtain ⟨y304, hy304⟩ : ∃ y_ : List (S32), y_ = (t301.set (a2 : Int).toNat (⟨(rd_T32 t301 a2).f0, (rd_T32 t301 a2).f1, (rd_T32 t301 a2).f2, (rd_T32 t301 a2).f3, (rd_T32 t301 a2).f4, (rd_T32 t301 a2).f5, 6⟩ : S32)) := ⟨_, rfl⟩
               replace H : (if 0 < (t294.length : Int) then (if 0 ≤ (wrap64 (a2 + 1)) then (if (wrap64 (a2 + 1)) ≤ (((rd_T46 t294 0).f3).size : Int) then (if (t294.length : Int) > 1 then (if 1 < (t294.length : Int) then (if (((rd_T46 t294 0).f3).extract ((wrap64 (a2 + 1)) : Int).toNat ((rd_T46 t294 0).f3).size).size + ((rd_T46 t294 1).f3).size ≤ 9223372036854775807 then (signalbenchlaw21_SyncAborts.j6 kj34 l1 a2 t294 y304 ((((rd_T46 t294 0).f3).extract ((wrap64 (a2 + 1)) : Int).toNat ((rd_T46 t294 0).f3).size) ++ ((rd_T46 t294 1).f3)) a0_0 a0_1 a0_2) else (none)) else (none)) else (signalbenchlaw21_SyncAborts.j6 kj34 l1 a2 t294 y304 (((rd_T46 t294 0).f3).extract ((wrap64 (a2 + 1)) : Int).toNat ((rd_T46 t294 0).f3).size) a0_0 a0_1 a0_2)) else (none)) else (none)) else (none)) = some r := by first | (rw [hy304]; with_reducible exact H) | (have H2_ := (Option.bind_some _ _).symm.trans H; rw [hy304]; with_reducible exact H2_) | (have H2_ := (Option.bind_some _ _).symm.trans H; with_reducible exact H2_) | with_reducible exact H | (rw [hy304]; exact H) | exact H
               have Ny304 := Aside0.mk hy304
               clear hy304
               by_cases c45 : 0 < (t294.length : Int)
               ·rw [if_pos c45] at H
                have c45b0 : decide (0 < (t294.length : Int)) = true := decide_eq_true c45
                have c45b1 : decide (0 < t294.length) = true := decide_eq_true (by omega)
                clear c45
                obtain ⟨ji46, hji46⟩ : ∃ j_ : Int, (wrap64 (a2 + 1)) = j_ := ⟨_, rfl⟩
                replace H : (if 0 ≤ (ji46) then (if (ji46) ≤ (((rd_T46 t294 0).f3).size : Int) then (if (t294.length : Int) > 1 then (if 1 < (t294.length : Int) then (if (((rd_T46 t294 0).f3).extract ((ji46) : Int).toNat ((rd_T46 t294 0).f3).size).size + ((rd_T46 t294 1).f3).size ≤ 9223372036854775807 then (signalbenchlaw21_SyncAborts.j6 kj34 l1 a2 t294 y304 ((((rd_T46 t294 0).f3).extract ((ji46) : Int).toNat ((rd_T46 t294 0).f3).size) ++ ((rd_T46 t294 1).f3)) a0_0 a0_1 a0_2) else (none)) else (none)) else (signalbenchlaw21_SyncAborts.j6 kj34 l1 a2 t294 y304 (((rd_T46 t294 0).f3).extract ((ji46) : Int).toNat ((rd_T46 t294 0).f3).size) a0_0 a0_1 a0_2)) else (none)) else (none)) = some r := by first | (rw [hji46] at H; exact H) | (simp only [hji46] at H ⊢; exact H)
                (try rw [hji46] at A41)
                have hji46w : (IntKind.i64.wrap (a2 + 1)) = ji46 := (i64_w _).trans hji46
                by_cases c47 : 0 ≤ (ji46)
                ·rw [if_pos c47] at H
                 have c47b0 := eq_true c47
                 have c47b1 : decide (0 ≤ (ji46)) = true := decide_eq_true c47
                 clear c47
                 by_cases c48 : (ji46) ≤ (((rd_T46 t294 0).f3).size : Int)
                 ·rw [if_pos c48] at H
                  have c48b0 := eq_true c48
                  have c48b1 : decide ((ji46) ≤ (((rd_T46 t294 0).f3).size : Int)) = true := decide_eq_true c48
                  clear c48
                  have HC49 := Aside0.mk H
                  clear H
                  obtain ⟨Ao50, co50, eo50⟩ := Kd.R_slice HO_7.out
                  subst eo50
                  go_upto_if 96 with (first | (go_at_call 25; (with_reducible refine (signalbenchlaw21_events.calls kj34 _ _ t294 1 t301 _ ?side1 ?side2 A41.out).mono ?_); (case side1 => repeat (first | exact (Kd.R_reads' HO_7.out).2.2 | (with_reducible refine Kd.C_alloc ?_ _) | (with_reducible refine Kd.C_drewN ?_ _) | (with_reducible refine Kd.C_drew ?_))); (case side2 => exact (Kd.R_reads' HO_7.out).2.1); rintro e w51 ⟨v302, rfl, ho0, hb⟩; have n0_ := Aside0.mk (Kd.R_below (rkw HO_7.out) hb); have n1_ := Aside0.mk (Kd.R_lower ho0 (below_size (hbw HB.out))); have n2_ := Aside0.mk (blkb BK291.out hb); have n3_ := Aside0.mk (below_step (hbw HB.out) hb); clear HO_7; clear BK291; clear HB; have HO_7 := n0_; have HO303 := n1_; have BK291 := n2_; have HB := n3_; clear n0_ n1_ n2_ n3_; (try clear hb); (try clear hb2); (try clear hk); (try clear hi); (try clear ho0); have p44 : 0 ≤ (a2 : Int) := of_decide_eq_true (by first | (with_reducible assumption) | assumption); have q44 : (a2 : Int) < ((t301.length : Int) : Int) := of_decide_eq_true (by first | (with_reducible assumption) | assumption); obtain ⟨go44, co44, eo44, gb44, gl44, cl44, HG44⟩ := Kd.R_form HO303.out (by omega); (first | cases eo44 | (injection eo44 with ea_ en_ ec_; (first | subst ea_ | (injection ea_ with ea_; subst ea_)); subst ec_; clear en_)); have GB44 := Aside0.mk gb44; have GG44 := Aside0.mk HG44; clear gb44 gl44 HG44; obtain ⟨ce44, hcl44, hM44, hcc44, hfr44⟩ := Kd.R_elem HO303.out z32 (a2 : Int) p44 q44; obtain rfl := k32_openM hM44; have hx44_0 : w51.cell? ⟨go44, (a2 : Int).toNat * 7, none⟩ = some (.int .i64 ((rd_T32 t301 a2).f0)) := hcc44 0 _ rfl; have hx44_1 : w51.cell? ⟨go44, (a2 : Int).toNat * 7 + 1, none⟩ = some (.int .i64 ((rd_T32 t301 a2).f1)) := hcc44 1 _ rfl; have hx44_2 : w51.cell? ⟨go44, (a2 : Int).toNat * 7 + 2, none⟩ = some (.int .i64 ((rd_T32 t301 a2).f2)) := hcc44 2 _ rfl; have hx44_3 : w51.cell? ⟨go44, (a2 : Int).toNat * 7 + 3, none⟩ = some (.int .i64 ((rd_T32 t301 a2).f3)) := hcc44 3 _ rfl; have hx44_4 : w51.cell? ⟨go44, (a2 : Int).toNat * 7 + 4, none⟩ = some (.int .i64 ((rd_T32 t301 a2).f4)) := hcc44 4 _ rfl; have hx44_5 : w51.cell? ⟨go44, (a2 : Int).toNat * 7 + 5, none⟩ = some (.string ((rd_T32 t301 a2).f5)) := hcc44 5 _ rfl; have hx44_6 : w51.cell? ⟨go44, (a2 : Int).toNat * 7 + 6, none⟩ = some (.int .i64 ((rd_T32 t301 a2).f6)) := hcc44 6 _ rfl; have hf44_0 : w51.frozen? ⟨go44, (a2 : Int).toNat * 7, none⟩ = false := hfr44 0; have hf44_1 : w51.frozen? ⟨go44, (a2 : Int).toNat * 7 + 1, none⟩ = false := hfr44 1; have hf44_2 : w51.frozen? ⟨go44, (a2 : Int).toNat * 7 + 2, none⟩ = false := hfr44 2; have hf44_3 : w51.frozen? ⟨go44, (a2 : Int).toNat * 7 + 3, none⟩ = false := hfr44 3; have hf44_4 : w51.frozen? ⟨go44, (a2 : Int).toNat * 7 + 4, none⟩ = false := hfr44 4; have hf44_5 : w51.frozen? ⟨go44, (a2 : Int).toNat * 7 + 5, none⟩ = false := hfr44 5; have hf44_6 : w51.frozen? ⟨go44, (a2 : Int).toNat * 7 + 6, none⟩ = false := hfr44 6; clear hcl44 hcc44 hfr44 hM44; replace p44 := eq_true p44; replace q44 := eq_true q44; have HX52 := Aside0.mk (show Kd.R k32 32 w51 w.heap.size (fun _ => True) (.slice (some ⟨go44, 0, none⟩) t301.length co44) t301 from (rkw HO303.out)); obtain ⟨ce52, hcl52, hM52, hcc52, hfr52⟩ := Kd.R_elem HX52.out z32 (a2 : Int) (of_decide_eq_true (by first | (with_reducible assumption) | assumption)) (by have h_ : (a2 : Int) < ((t301.length : Int) : Int) := of_decide_eq_true (by first | (with_reducible assumption) | assumption); first | exact h_ | (have e_ := (Kd.R_reads' HO303.out).1; omega) | simpa using h_); obtain rfl := k32_openM hM52; have HP52 := Kd.R_seg HX52.out (a2 : Int) (of_decide_eq_true (by first | (with_reducible assumption) | assumption)) (by have h_ : (a2 : Int) < ((t301.length : Int) : Int) := of_decide_eq_true (by first | (with_reducible assumption) | assumption); first | exact h_ | (have e_ := (Kd.R_reads' HO303.out).1; omega) | simpa using h_) (seg := [.int .i64 6]) (j := 6) hcl52 hcc52 (show 7 ≤ 7 from by decide) (x' := (⟨(rd_T32 t301 a2).f0, (rd_T32 t301 a2).f1, (rd_T32 t301 a2).f2, (rd_T32 t301 a2).f3, (rd_T32 t301 a2).f4, (rd_T32 t301 a2).f5, 6⟩ : S32)) (k32_mkM _ _ _ (⟨(rd_T32 t301 a2).f0, (rd_T32 t301 a2).f1, (rd_T32 t301 a2).f2, (rd_T32 t301 a2).f3, (rd_T32 t301 a2).f4, (rd_T32 t301 a2).f5, 6⟩ : S32) ) (fun _ hk => hk); have hx52_6 := hcc52 6 _ rfl; (try simp only [show (k32).sz = 7 from rfl, Nat.mul_one, Nat.add_zero] at hx52_6); have hf52_6 := hfr52 6; (try simp only [show (k32).sz = 7 from rfl, Nat.mul_one, Nat.add_zero] at hf52_6); clear hcl52 hcc52 hfr52 hM52) | ((with_reducible refine gate_store (t := 3) (p := 86) rfl ?_); (try (rw [drewN_self w51]; generalize hq_ : World.drewN w51 _ = w51; have n0_ := Aside0.mk (Kd.R_at hq_ HO_7.out); have n1_ := Aside0.mk (Kd.R_at hq_ HO303.out); have n2_ := Aside0.mk (blk_at hq_ BK291.out); have n3_ := Aside0.mk (below_at hq_ HB.out); clear hq_ HO_7 HO303 BK291 HB; have HO_7 := n0_; have HO303 := n1_; have BK291 := n2_; have HB := n3_; clear n0_ n1_ n2_ n3_; (try (have HX52 := Aside0.mk (show Kd.R k32 32 w51 w.heap.size (fun _ => True) (.slice (some ⟨go44, 0, none⟩) t301.length co44) t301 from (rkw HO303.out)))); (try (obtain ⟨ce52, hcl52, hM52, hcc52, hfr52⟩ := Kd.R_elem HX52.out z32 (a2 : Int) (of_decide_eq_true (by first | (with_reducible assumption) | assumption)) (by have h_ : (a2 : Int) < ((t301.length : Int) : Int) := of_decide_eq_true (by first | (with_reducible assumption) | assumption); first | exact h_ | (have e_ := (Kd.R_reads' HO303.out).1; omega) | simpa using h_))); (try (obtain rfl := k32_openM hM52)); (try (have HP52 := Kd.R_seg HX52.out (a2 : Int) (of_decide_eq_true (by first | (with_reducible assumption) | assumption)) (by have h_ : (a2 : Int) < ((t301.length : Int) : Int) := of_decide_eq_true (by first | (with_reducible assumption) | assumption); first | exact h_ | (have e_ := (Kd.R_reads' HO303.out).1; omega) | simpa using h_) (seg := [.int .i64 6]) (j := 6) hcl52 hcc52 (show 7 ≤ 7 from by decide) (x' := (⟨(rd_T32 t301 a2).f0, (rd_T32 t301 a2).f1, (rd_T32 t301 a2).f2, (rd_T32 t301 a2).f3, (rd_T32 t301 a2).f4, (rd_T32 t301 a2).f5, 6⟩ : S32)) (k32_mkM _ _ _ (⟨(rd_T32 t301 a2).f0, (rd_T32 t301 a2).f1, (rd_T32 t301 a2).f2, (rd_T32 t301 a2).f3, (rd_T32 t301 a2).f4, (rd_T32 t301 a2).f5, 6⟩ : S32) ) (fun _ hk => hk))); (try (have hx52_6 := hcc52 6 _ rfl)); (try (try simp only [show (k32).sz = 7 from rfl, Nat.mul_one, Nat.add_zero] at hx52_6)); (try (have hf52_6 := hfr52 6)); (try (try simp only [show (k32).sz = 7 from rfl, Nat.mul_one, Nat.add_zero] at hf52_6)); (try (clear hcl52 hcc52 hfr52 hM52)))); refine store_event (t := 3) (p := 86) (v := ?vo_w53) (w1 := (w51.setCell ⟨go44, (a2 : Int).toNat * 7 + 6, none⟩ (.int .i64 6))) ?hg ?ho ?hn ?hr ?_; (case ho => rfl); (case hg => rfl); (case hn => rfl); (case hr => first | (go_simp; done) | (go_simp; rfl)); intro w53 hw; have hg : w51.grownBy w53 (some go44) := (by rw [hw]; exact HP52.2); have hp_ : Kd.R k32 32 w53 w.heap.size (fun _ => True) (.slice (some ⟨go44, 0, none⟩) t301.length co44) y304 := (by rw [hw, Ny304.out]; exact HP52.1); clear HP52; have n0_ := Aside0.mk (Kd.R_over' (v := (.slice (some ⟨go44, 0, none⟩) t301.length co44)) (rkw HO_7.out) (Kd.R_typed HO303.out) (by decide) hg); have n1_ := Aside0.mk (blkg BK291.out hg (Kd.R_ne HO303.out BK291.out (by decide))); have n2_ := Aside0.mk (hp_); have n3_ := Aside0.mk ((by rw [hw]; exact below_set (HB.out) GB44.out : Below w.heap.size w w53)); clear HO_7; clear BK291; clear HO303; clear HB; have HO_7 := n0_; have BK291 := n1_; have HO303 := n2_; have HB := n3_; clear n0_ n1_ n2_ n3_; clear hg hw hp_; have p305 : 0 ≤ (0 : Int) := (by omega); have q305 : 0 < (t294.length : Int) := of_decide_eq_true (by first | (with_reducible assumption) | assumption); obtain ⟨ad305, e305, hx305_0, hx305_1, hx305_2, hx305_3, hx305_4⟩ := at_T46 (Kd.R_reads' HO_7.out).2.2 0 p305 q305; cases e305; have qi305 : (0 < t294.length) = True := eq_true (by omega); (try rw [show ((0 : Int)).toNat = 0 from rfl] at hx305_0); (try rw [show 0 * 5 = 0 from rfl] at hx305_0); (try rw [Addr.add_zero'] at hx305_0); (try rw [show ((0 : Int)).toNat = 0 from rfl] at hx305_1); (try rw [show 0 * 5 = 0 from rfl] at hx305_1); (try rw [Addr.add_zero'] at hx305_1); (try rw [show ((0 : Int)).toNat = 0 from rfl] at hx305_2); (try rw [show 0 * 5 = 0 from rfl] at hx305_2); (try rw [Addr.add_zero'] at hx305_2); (try rw [show ((0 : Int)).toNat = 0 from rfl] at hx305_3); (try rw [show 0 * 5 = 0 from rfl] at hx305_3); (try rw [Addr.add_zero'] at hx305_3); (try rw [show ((0 : Int)).toNat = 0 from rfl] at hx305_4); (try rw [show 0 * 5 = 0 from rfl] at hx305_4); (try rw [Addr.add_zero'] at hx305_4); replace p305 := eq_true p305; replace q305 := eq_true q305))
                  repeat (go_quiet (first | (go_at_call 25; (with_reducible refine (signalbenchlaw21_events.calls kj34 _ _ t294 1 t301 _ ?side1 ?side2 A41.out).mono ?_); (case side1 => repeat (first | exact (Kd.R_reads' HO_7.out).2.2 | (with_reducible refine Kd.C_alloc ?_ _) | (with_reducible refine Kd.C_drewN ?_ _) | (with_reducible refine Kd.C_drew ?_))); (case side2 => exact (Kd.R_reads' HO_7.out).2.1); rintro e w51 ⟨v302, rfl, ho0, hb⟩; have n0_ := Aside0.mk (Kd.R_below (rkw HO_7.out) hb); have n1_ := Aside0.mk (Kd.R_lower ho0 (below_size (hbw HB.out))); have n2_ := Aside0.mk (blkb BK291.out hb); have n3_ := Aside0.mk (below_step (hbw HB.out) hb); clear HO_7; clear BK291; clear HB; have HO_7 := n0_; have HO303 := n1_; have BK291 := n2_; have HB := n3_; clear n0_ n1_ n2_ n3_; (try clear hb); (try clear hb2); (try clear hk); (try clear hi); (try clear ho0); have p44 : 0 ≤ (a2 : Int) := of_decide_eq_true (by first | (with_reducible assumption) | assumption); have q44 : (a2 : Int) < ((t301.length : Int) : Int) := of_decide_eq_true (by first | (with_reducible assumption) | assumption); obtain ⟨go44, co44, eo44, gb44, gl44, cl44, HG44⟩ := Kd.R_form HO303.out (by omega); (first | cases eo44 | (injection eo44 with ea_ en_ ec_; (first | subst ea_ | (injection ea_ with ea_; subst ea_)); subst ec_; clear en_)); have GB44 := Aside0.mk gb44; have GG44 := Aside0.mk HG44; clear gb44 gl44 HG44; obtain ⟨ce44, hcl44, hM44, hcc44, hfr44⟩ := Kd.R_elem HO303.out z32 (a2 : Int) p44 q44; obtain rfl := k32_openM hM44; have hx44_0 : w51.cell? ⟨go44, (a2 : Int).toNat * 7, none⟩ = some (.int .i64 ((rd_T32 t301 a2).f0)) := hcc44 0 _ rfl; have hx44_1 : w51.cell? ⟨go44, (a2 : Int).toNat * 7 + 1, none⟩ = some (.int .i64 ((rd_T32 t301 a2).f1)) := hcc44 1 _ rfl; have hx44_2 : w51.cell? ⟨go44, (a2 : Int).toNat * 7 + 2, none⟩ = some (.int .i64 ((rd_T32 t301 a2).f2)) := hcc44 2 _ rfl; have hx44_3 : w51.cell? ⟨go44, (a2 : Int).toNat * 7 + 3, none⟩ = some (.int .i64 ((rd_T32 t301 a2).f3)) := hcc44 3 _ rfl; have hx44_4 : w51.cell? ⟨go44, (a2 : Int).toNat * 7 + 4, none⟩ = some (.int .i64 ((rd_T32 t301 a2).f4)) := hcc44 4 _ rfl; have hx44_5 : w51.cell? ⟨go44, (a2 : Int).toNat * 7 + 5, none⟩ = some (.string ((rd_T32 t301 a2).f5)) := hcc44 5 _ rfl; have hx44_6 : w51.cell? ⟨go44, (a2 : Int).toNat * 7 + 6, none⟩ = some (.int .i64 ((rd_T32 t301 a2).f6)) := hcc44 6 _ rfl; have hf44_0 : w51.frozen? ⟨go44, (a2 : Int).toNat * 7, none⟩ = false := hfr44 0; have hf44_1 : w51.frozen? ⟨go44, (a2 : Int).toNat * 7 + 1, none⟩ = false := hfr44 1; have hf44_2 : w51.frozen? ⟨go44, (a2 : Int).toNat * 7 + 2, none⟩ = false := hfr44 2; have hf44_3 : w51.frozen? ⟨go44, (a2 : Int).toNat * 7 + 3, none⟩ = false := hfr44 3; have hf44_4 : w51.frozen? ⟨go44, (a2 : Int).toNat * 7 + 4, none⟩ = false := hfr44 4; have hf44_5 : w51.frozen? ⟨go44, (a2 : Int).toNat * 7 + 5, none⟩ = false := hfr44 5; have hf44_6 : w51.frozen? ⟨go44, (a2 : Int).toNat * 7 + 6, none⟩ = false := hfr44 6; clear hcl44 hcc44 hfr44 hM44; replace p44 := eq_true p44; replace q44 := eq_true q44; have HX52 := Aside0.mk (show Kd.R k32 32 w51 w.heap.size (fun _ => True) (.slice (some ⟨go44, 0, none⟩) t301.length co44) t301 from (rkw HO303.out)); obtain ⟨ce52, hcl52, hM52, hcc52, hfr52⟩ := Kd.R_elem HX52.out z32 (a2 : Int) (of_decide_eq_true (by first | (with_reducible assumption) | assumption)) (by have h_ : (a2 : Int) < ((t301.length : Int) : Int) := of_decide_eq_true (by first | (with_reducible assumption) | assumption); first | exact h_ | (have e_ := (Kd.R_reads' HO303.out).1; omega) | simpa using h_); obtain rfl := k32_openM hM52; have HP52 := Kd.R_seg HX52.out (a2 : Int) (of_decide_eq_true (by first | (with_reducible assumption) | assumption)) (by have h_ : (a2 : Int) < ((t301.length : Int) : Int) := of_decide_eq_true (by first | (with_reducible assumption) | assumption); first | exact h_ | (have e_ := (Kd.R_reads' HO303.out).1; omega) | simpa using h_) (seg := [.int .i64 6]) (j := 6) hcl52 hcc52 (show 7 ≤ 7 from by decide) (x' := (⟨(rd_T32 t301 a2).f0, (rd_T32 t301 a2).f1, (rd_T32 t301 a2).f2, (rd_T32 t301 a2).f3, (rd_T32 t301 a2).f4, (rd_T32 t301 a2).f5, 6⟩ : S32)) (k32_mkM _ _ _ (⟨(rd_T32 t301 a2).f0, (rd_T32 t301 a2).f1, (rd_T32 t301 a2).f2, (rd_T32 t301 a2).f3, (rd_T32 t301 a2).f4, (rd_T32 t301 a2).f5, 6⟩ : S32) ) (fun _ hk => hk); have hx52_6 := hcc52 6 _ rfl; (try simp only [show (k32).sz = 7 from rfl, Nat.mul_one, Nat.add_zero] at hx52_6); have hf52_6 := hfr52 6; (try simp only [show (k32).sz = 7 from rfl, Nat.mul_one, Nat.add_zero] at hf52_6); clear hcl52 hcc52 hfr52 hM52) | ((with_reducible refine gate_store (t := 3) (p := 86) rfl ?_); (try (rw [drewN_self w51]; generalize hq_ : World.drewN w51 _ = w51; have n0_ := Aside0.mk (Kd.R_at hq_ HO_7.out); have n1_ := Aside0.mk (Kd.R_at hq_ HO303.out); have n2_ := Aside0.mk (blk_at hq_ BK291.out); have n3_ := Aside0.mk (below_at hq_ HB.out); clear hq_ HO_7 HO303 BK291 HB; have HO_7 := n0_; have HO303 := n1_; have BK291 := n2_; have HB := n3_; clear n0_ n1_ n2_ n3_; (try (have HX52 := Aside0.mk (show Kd.R k32 32 w51 w.heap.size (fun _ => True) (.slice (some ⟨go44, 0, none⟩) t301.length co44) t301 from (rkw HO303.out)))); (try (obtain ⟨ce52, hcl52, hM52, hcc52, hfr52⟩ := Kd.R_elem HX52.out z32 (a2 : Int) (of_decide_eq_true (by first | (with_reducible assumption) | assumption)) (by have h_ : (a2 : Int) < ((t301.length : Int) : Int) := of_decide_eq_true (by first | (with_reducible assumption) | assumption); first | exact h_ | (have e_ := (Kd.R_reads' HO303.out).1; omega) | simpa using h_))); (try (obtain rfl := k32_openM hM52)); (try (have HP52 := Kd.R_seg HX52.out (a2 : Int) (of_decide_eq_true (by first | (with_reducible assumption) | assumption)) (by have h_ : (a2 : Int) < ((t301.length : Int) : Int) := of_decide_eq_true (by first | (with_reducible assumption) | assumption); first | exact h_ | (have e_ := (Kd.R_reads' HO303.out).1; omega) | simpa using h_) (seg := [.int .i64 6]) (j := 6) hcl52 hcc52 (show 7 ≤ 7 from by decide) (x' := (⟨(rd_T32 t301 a2).f0, (rd_T32 t301 a2).f1, (rd_T32 t301 a2).f2, (rd_T32 t301 a2).f3, (rd_T32 t301 a2).f4, (rd_T32 t301 a2).f5, 6⟩ : S32)) (k32_mkM _ _ _ (⟨(rd_T32 t301 a2).f0, (rd_T32 t301 a2).f1, (rd_T32 t301 a2).f2, (rd_T32 t301 a2).f3, (rd_T32 t301 a2).f4, (rd_T32 t301 a2).f5, 6⟩ : S32) ) (fun _ hk => hk))); (try (have hx52_6 := hcc52 6 _ rfl)); (try (try simp only [show (k32).sz = 7 from rfl, Nat.mul_one, Nat.add_zero] at hx52_6)); (try (have hf52_6 := hfr52 6)); (try (try simp only [show (k32).sz = 7 from rfl, Nat.mul_one, Nat.add_zero] at hf52_6)); (try (clear hcl52 hcc52 hfr52 hM52)))); refine store_event (t := 3) (p := 86) (v := ?vo_w53) (w1 := (w51.setCell ⟨go44, (a2 : Int).toNat * 7 + 6, none⟩ (.int .i64 6))) ?hg ?ho ?hn ?hr ?_; (case ho => rfl); (case hg => rfl); (case hn => rfl); (case hr => first | (go_simp; done) | (go_simp; rfl)); intro w53 hw; have hg : w51.grownBy w53 (some go44) := (by rw [hw]; exact HP52.2); have hp_ : Kd.R k32 32 w53 w.heap.size (fun _ => True) (.slice (some ⟨go44, 0, none⟩) t301.length co44) y304 := (by rw [hw, Ny304.out]; exact HP52.1); clear HP52; have n0_ := Aside0.mk (Kd.R_over' (v := (.slice (some ⟨go44, 0, none⟩) t301.length co44)) (rkw HO_7.out) (Kd.R_typed HO303.out) (by decide) hg); have n1_ := Aside0.mk (blkg BK291.out hg (Kd.R_ne HO303.out BK291.out (by decide))); have n2_ := Aside0.mk (hp_); have n3_ := Aside0.mk ((by rw [hw]; exact below_set (HB.out) GB44.out : Below w.heap.size w w53)); clear HO_7; clear BK291; clear HO303; clear HB; have HO_7 := n0_; have BK291 := n1_; have HO303 := n2_; have HB := n3_; clear n0_ n1_ n2_ n3_; clear hg hw hp_; have p305 : 0 ≤ (0 : Int) := (by omega); have q305 : 0 < (t294.length : Int) := of_decide_eq_true (by first | (with_reducible assumption) | assumption); obtain ⟨ad305, e305, hx305_0, hx305_1, hx305_2, hx305_3, hx305_4⟩ := at_T46 (Kd.R_reads' HO_7.out).2.2 0 p305 q305; cases e305; have qi305 : (0 < t294.length) = True := eq_true (by omega); (try rw [show ((0 : Int)).toNat = 0 from rfl] at hx305_0); (try rw [show 0 * 5 = 0 from rfl] at hx305_0); (try rw [Addr.add_zero'] at hx305_0); (try rw [show ((0 : Int)).toNat = 0 from rfl] at hx305_1); (try rw [show 0 * 5 = 0 from rfl] at hx305_1); (try rw [Addr.add_zero'] at hx305_1); (try rw [show ((0 : Int)).toNat = 0 from rfl] at hx305_2); (try rw [show 0 * 5 = 0 from rfl] at hx305_2); (try rw [Addr.add_zero'] at hx305_2); (try rw [show ((0 : Int)).toNat = 0 from rfl] at hx305_3); (try rw [show 0 * 5 = 0 from rfl] at hx305_3); (try rw [Addr.add_zero'] at hx305_3); (try rw [show ((0 : Int)).toNat = 0 from rfl] at hx305_4); (try rw [show 0 * 5 = 0 from rfl] at hx305_4); (try rw [Addr.add_zero'] at hx305_4); replace p305 := eq_true p305; replace q305 := eq_true q305)); go_upto_if 96 with (first | (go_at_call 25; (with_reducible refine (signalbenchlaw21_events.calls kj34 _ _ t294 1 t301 _ ?side1 ?side2 A41.out).mono ?_); (case side1 => repeat (first | exact (Kd.R_reads' HO_7.out).2.2 | (with_reducible refine Kd.C_alloc ?_ _) | (with_reducible refine Kd.C_drewN ?_ _) | (with_reducible refine Kd.C_drew ?_))); (case side2 => exact (Kd.R_reads' HO_7.out).2.1); rintro e w51 ⟨v302, rfl, ho0, hb⟩; have n0_ := Aside0.mk (Kd.R_below (rkw HO_7.out) hb); have n1_ := Aside0.mk (Kd.R_lower ho0 (below_size (hbw HB.out))); have n2_ := Aside0.mk (blkb BK291.out hb); have n3_ := Aside0.mk (below_step (hbw HB.out) hb); clear HO_7; clear BK291; clear HB; have HO_7 := n0_; have HO303 := n1_; have BK291 := n2_; have HB := n3_; clear n0_ n1_ n2_ n3_; (try clear hb); (try clear hb2); (try clear hk); (try clear hi); (try clear ho0); have p44 : 0 ≤ (a2 : Int) := of_decide_eq_true (by first | (with_reducible assumption) | assumption); have q44 : (a2 : Int) < ((t301.length : Int) : Int) := of_decide_eq_true (by first | (with_reducible assumption) | assumption); obtain ⟨go44, co44, eo44, gb44, gl44, cl44, HG44⟩ := Kd.R_form HO303.out (by omega); (first | cases eo44 | (injection eo44 with ea_ en_ ec_; (first | subst ea_ | (injection ea_ with ea_; subst ea_)); subst ec_; clear en_)); have GB44 := Aside0.mk gb44; have GG44 := Aside0.mk HG44; clear gb44 gl44 HG44; obtain ⟨ce44, hcl44, hM44, hcc44, hfr44⟩ := Kd.R_elem HO303.out z32 (a2 : Int) p44 q44; obtain rfl := k32_openM hM44; have hx44_0 : w51.cell? ⟨go44, (a2 : Int).toNat * 7, none⟩ = some (.int .i64 ((rd_T32 t301 a2).f0)) := hcc44 0 _ rfl; have hx44_1 : w51.cell? ⟨go44, (a2 : Int).toNat * 7 + 1, none⟩ = some (.int .i64 ((rd_T32 t301 a2).f1)) := hcc44 1 _ rfl; have hx44_2 : w51.cell? ⟨go44, (a2 : Int).toNat * 7 + 2, none⟩ = some (.int .i64 ((rd_T32 t301 a2).f2)) := hcc44 2 _ rfl; have hx44_3 : w51.cell? ⟨go44, (a2 : Int).toNat * 7 + 3, none⟩ = some (.int .i64 ((rd_T32 t301 a2).f3)) := hcc44 3 _ rfl; have hx44_4 : w51.cell? ⟨go44, (a2 : Int).toNat * 7 + 4, none⟩ = some (.int .i64 ((rd_T32 t301 a2).f4)) := hcc44 4 _ rfl; have hx44_5 : w51.cell? ⟨go44, (a2 : Int).toNat * 7 + 5, none⟩ = some (.string ((rd_T32 t301 a2).f5)) := hcc44 5 _ rfl; have hx44_6 : w51.cell? ⟨go44, (a2 : Int).toNat * 7 + 6, none⟩ = some (.int .i64 ((rd_T32 t301 a2).f6)) := hcc44 6 _ rfl; have hf44_0 : w51.frozen? ⟨go44, (a2 : Int).toNat * 7, none⟩ = false := hfr44 0; have hf44_1 : w51.frozen? ⟨go44, (a2 : Int).toNat * 7 + 1, none⟩ = false := hfr44 1; have hf44_2 : w51.frozen? ⟨go44, (a2 : Int).toNat * 7 + 2, none⟩ = false := hfr44 2; have hf44_3 : w51.frozen? ⟨go44, (a2 : Int).toNat * 7 + 3, none⟩ = false := hfr44 3; have hf44_4 : w51.frozen? ⟨go44, (a2 : Int).toNat * 7 + 4, none⟩ = false := hfr44 4; have hf44_5 : w51.frozen? ⟨go44, (a2 : Int).toNat * 7 + 5, none⟩ = false := hfr44 5; have hf44_6 : w51.frozen? ⟨go44, (a2 : Int).toNat * 7 + 6, none⟩ = false := hfr44 6; clear hcl44 hcc44 hfr44 hM44; replace p44 := eq_true p44; replace q44 := eq_true q44; have HX52 := Aside0.mk (show Kd.R k32 32 w51 w.heap.size (fun _ => True) (.slice (some ⟨go44, 0, none⟩) t301.length co44) t301 from (rkw HO303.out)); obtain ⟨ce52, hcl52, hM52, hcc52, hfr52⟩ := Kd.R_elem HX52.out z32 (a2 : Int) (of_decide_eq_true (by first | (with_reducible assumption) | assumption)) (by have h_ : (a2 : Int) < ((t301.length : Int) : Int) := of_decide_eq_true (by first | (with_reducible assumption) | assumption); first | exact h_ | (have e_ := (Kd.R_reads' HO303.out).1; omega) | simpa using h_); obtain rfl := k32_openM hM52; have HP52 := Kd.R_seg HX52.out (a2 : Int) (of_decide_eq_true (by first | (with_reducible assumption) | assumption)) (by have h_ : (a2 : Int) < ((t301.length : Int) : Int) := of_decide_eq_true (by first | (with_reducible assumption) | assumption); first | exact h_ | (have e_ := (Kd.R_reads' HO303.out).1; omega) | simpa using h_) (seg := [.int .i64 6]) (j := 6) hcl52 hcc52 (show 7 ≤ 7 from by decide) (x' := (⟨(rd_T32 t301 a2).f0, (rd_T32 t301 a2).f1, (rd_T32 t301 a2).f2, (rd_T32 t301 a2).f3, (rd_T32 t301 a2).f4, (rd_T32 t301 a2).f5, 6⟩ : S32)) (k32_mkM _ _ _ (⟨(rd_T32 t301 a2).f0, (rd_T32 t301 a2).f1, (rd_T32 t301 a2).f2, (rd_T32 t301 a2).f3, (rd_T32 t301 a2).f4, (rd_T32 t301 a2).f5, 6⟩ : S32) ) (fun _ hk => hk); have hx52_6 := hcc52 6 _ rfl; (try simp only [show (k32).sz = 7 from rfl, Nat.mul_one, Nat.add_zero] at hx52_6); have hf52_6 := hfr52 6; (try simp only [show (k32).sz = 7 from rfl, Nat.mul_one, Nat.add_zero] at hf52_6); clear hcl52 hcc52 hfr52 hM52) | ((with_reducible refine gate_store (t := 3) (p := 86) rfl ?_); (try (rw [drewN_self w51]; generalize hq_ : World.drewN w51 _ = w51; have n0_ := Aside0.mk (Kd.R_at hq_ HO_7.out); have n1_ := Aside0.mk (Kd.R_at hq_ HO303.out); have n2_ := Aside0.mk (blk_at hq_ BK291.out); have n3_ := Aside0.mk (below_at hq_ HB.out); clear hq_ HO_7 HO303 BK291 HB; have HO_7 := n0_; have HO303 := n1_; have BK291 := n2_; have HB := n3_; clear n0_ n1_ n2_ n3_; (try (have HX52 := Aside0.mk (show Kd.R k32 32 w51 w.heap.size (fun _ => True) (.slice (some ⟨go44, 0, none⟩) t301.length co44) t301 from (rkw HO303.out)))); (try (obtain ⟨ce52, hcl52, hM52, hcc52, hfr52⟩ := Kd.R_elem HX52.out z32 (a2 : Int) (of_decide_eq_true (by first | (with_reducible assumption) | assumption)) (by have h_ : (a2 : Int) < ((t301.length : Int) : Int) := of_decide_eq_true (by first | (with_reducible assumption) | assumption); first | exact h_ | (have e_ := (Kd.R_reads' HO303.out).1; omega) | simpa using h_))); (try (obtain rfl := k32_openM hM52)); (try (have HP52 := Kd.R_seg HX52.out (a2 : Int) (of_decide_eq_true (by first | (with_reducible assumption) | assumption)) (by have h_ : (a2 : Int) < ((t301.length : Int) : Int) := of_decide_eq_true (by first | (with_reducible assumption) | assumption); first | exact h_ | (have e_ := (Kd.R_reads' HO303.out).1; omega) | simpa using h_) (seg := [.int .i64 6]) (j := 6) hcl52 hcc52 (show 7 ≤ 7 from by decide) (x' := (⟨(rd_T32 t301 a2).f0, (rd_T32 t301 a2).f1, (rd_T32 t301 a2).f2, (rd_T32 t301 a2).f3, (rd_T32 t301 a2).f4, (rd_T32 t301 a2).f5, 6⟩ : S32)) (k32_mkM _ _ _ (⟨(rd_T32 t301 a2).f0, (rd_T32 t301 a2).f1, (rd_T32 t301 a2).f2, (rd_T32 t301 a2).f3, (rd_T32 t301 a2).f4, (rd_T32 t301 a2).f5, 6⟩ : S32) ) (fun _ hk => hk))); (try (have hx52_6 := hcc52 6 _ rfl)); (try (try simp only [show (k32).sz = 7 from rfl, Nat.mul_one, Nat.add_zero] at hx52_6)); (try (have hf52_6 := hfr52 6)); (try (try simp only [show (k32).sz = 7 from rfl, Nat.mul_one, Nat.add_zero] at hf52_6)); (try (clear hcl52 hcc52 hfr52 hM52)))); refine store_event (t := 3) (p := 86) (v := ?vo_w53) (w1 := (w51.setCell ⟨go44, (a2 : Int).toNat * 7 + 6, none⟩ (.int .i64 6))) ?hg ?ho ?hn ?hr ?_; (case ho => rfl); (case hg => rfl); (case hn => rfl); (case hr => first | (go_simp; done) | (go_simp; rfl)); intro w53 hw; have hg : w51.grownBy w53 (some go44) := (by rw [hw]; exact HP52.2); have hp_ : Kd.R k32 32 w53 w.heap.size (fun _ => True) (.slice (some ⟨go44, 0, none⟩) t301.length co44) y304 := (by rw [hw, Ny304.out]; exact HP52.1); clear HP52; have n0_ := Aside0.mk (Kd.R_over' (v := (.slice (some ⟨go44, 0, none⟩) t301.length co44)) (rkw HO_7.out) (Kd.R_typed HO303.out) (by decide) hg); have n1_ := Aside0.mk (blkg BK291.out hg (Kd.R_ne HO303.out BK291.out (by decide))); have n2_ := Aside0.mk (hp_); have n3_ := Aside0.mk ((by rw [hw]; exact below_set (HB.out) GB44.out : Below w.heap.size w w53)); clear HO_7; clear BK291; clear HO303; clear HB; have HO_7 := n0_; have BK291 := n1_; have HO303 := n2_; have HB := n3_; clear n0_ n1_ n2_ n3_; clear hg hw hp_; have p305 : 0 ≤ (0 : Int) := (by omega); have q305 : 0 < (t294.length : Int) := of_decide_eq_true (by first | (with_reducible assumption) | assumption); obtain ⟨ad305, e305, hx305_0, hx305_1, hx305_2, hx305_3, hx305_4⟩ := at_T46 (Kd.R_reads' HO_7.out).2.2 0 p305 q305; cases e305; have qi305 : (0 < t294.length) = True := eq_true (by omega); (try rw [show ((0 : Int)).toNat = 0 from rfl] at hx305_0); (try rw [show 0 * 5 = 0 from rfl] at hx305_0); (try rw [Addr.add_zero'] at hx305_0); (try rw [show ((0 : Int)).toNat = 0 from rfl] at hx305_1); (try rw [show 0 * 5 = 0 from rfl] at hx305_1); (try rw [Addr.add_zero'] at hx305_1); (try rw [show ((0 : Int)).toNat = 0 from rfl] at hx305_2); (try rw [show 0 * 5 = 0 from rfl] at hx305_2); (try rw [Addr.add_zero'] at hx305_2); (try rw [show ((0 : Int)).toNat = 0 from rfl] at hx305_3); (try rw [show 0 * 5 = 0 from rfl] at hx305_3); (try rw [Addr.add_zero'] at hx305_3); (try rw [show ((0 : Int)).toNat = 0 from rfl] at hx305_4); (try rw [show 0 * 5 = 0 from rfl] at hx305_4); (try rw [Addr.add_zero'] at hx305_4); replace p305 := eq_true p305; replace q305 := eq_true q305)))
                  (try simp only [Act.put, List.setIfInBounds_toArray, List.set_cons_zero, List.set_cons_succ])
                  go_cut [10] (fun v10 wc => ∃ (kq : Nat) (x10_48 : ByteArray), v10 = .string x10_48 ∧ Aside0 (signalbenchlaw21_SyncAborts.j6 kq l1 a2 t294 y304 x10_48 a0_0 a0_1 a0_2 = some r) ∧ Aside0 (kq ≤ kj34) ∧ Aside0 (Kd.R k46 46 wc w.heap.size (fun _ => True) (.slice (some ad305) t294.length co50) t294) ∧ Aside0 (Kd.R k32 32 wc w.heap.size (fun _ => True) (.slice (some ⟨go44, 0, none⟩) t301.length co44) y304) ∧ Aside0 (wc.heap[gb291]? = some (.cells #[.string a0_0, .int .i64 a0_1, .bool a0_2] 23 (0, 0))) ∧ Aside0 (Below w.heap.size w wc))
                  case first => as_aux_lemma =>
                   have H := HC49.out
                   clear HC49
                   by_cases c54 : (t294.length : Int) > 1
                   ·rw [if_pos c54] at H
                    have c54b0 : decide (1 < (t294.length : Int)) = true := decide_eq_true c54
                    have c54b1 : decide (1 < t294.length) = true := decide_eq_true (by omega)
                    clear c54
                    (first | rw [c54b0] | (simp only [i64_w, i32_w]; rw [c54b0]) | skip)
                    by_cases c55 : 1 < (t294.length : Int)
                    ·rw [if_pos c55] at H
                     have c55b0 : decide (1 < (t294.length : Int)) = true := decide_eq_true c55
                     have c55b1 : decide (1 < t294.length) = true := decide_eq_true (by omega)
                     clear c55
                     by_cases c56 : (((rd_T46 t294 0).f3).extract ((ji46) : Int).toNat ((rd_T46 t294 0).f3).size).size + ((rd_T46 t294 1).f3).size ≤ 9223372036854775807
                     ·rw [if_pos c56] at H
                      have c56b0 := eq_true c56
                      have c56b1 : decide ((((rd_T46 t294 0).f3).extract ((ji46) : Int).toNat ((rd_T46 t294 0).f3).size).size + ((rd_T46 t294 1).f3).size ≤ 9223372036854775807) = true := decide_eq_true c56
                      try have c56b2 : (9223372036854775807 < (((rd_T46 t294 0).f3).extract ((ji46) : Int).toNat ((rd_T46 t294 0).f3).size).size + ((rd_T46 t294 1).f3).size) = False := eq_false (Nat.not_lt.2 c56)
                      have H' := Aside0.mk H
                      clear H
                      have p306 : 0 ≤ (1 : Int) := (by omega)
                      have q306 : 1 < (t294.length : Int) := of_decide_eq_true (by first | (with_reducible assumption) | assumption)
                      obtain ⟨ad306, e306, hx306_0, hx306_1, hx306_2, hx306_3, hx306_4⟩ := at_T46 (Kd.R_reads' HO_7.out).2.2 1 p306 q306
                      obtain rfl : ad305 = ad306 := (by injection e306)
                      (try simp only [show (1 : Int).toNat = 1 from rfl, Nat.reduceMul, Nat.reduceEqDiff, Go.Addr.add, ↓reduceIte] at hx306_0)
                      (try simp only [show (1 : Int).toNat = 1 from rfl, Nat.reduceMul, Nat.reduceEqDiff, Go.Addr.add, ↓reduceIte] at hx306_1)
                      (try simp only [show (1 : Int).toNat = 1 from rfl, Nat.reduceMul, Nat.reduceEqDiff, Go.Addr.add, ↓reduceIte] at hx306_2)
                      (try simp only [show (1 : Int).toNat = 1 from rfl, Nat.reduceMul, Nat.reduceEqDiff, Go.Addr.add, ↓reduceIte] at hx306_3)
                      (try simp only [show (1 : Int).toNat = 1 from rfl, Nat.reduceMul, Nat.reduceEqDiff, Go.Addr.add, ↓reduceIte] at hx306_4)
                      have qi306 : (1 < t294.length) = True := eq_true (by omega)
                      (try rw [show ((1 : Int)).toNat = 1 from rfl] at hx306_0)
                      (try rw [show 1 * 5 = 5 from rfl] at hx306_0)
                      (try rw [show ((1 : Int)).toNat = 1 from rfl] at hx306_1)
                      (try rw [show 1 * 5 = 5 from rfl] at hx306_1)
                      (try rw [show ((1 : Int)).toNat = 1 from rfl] at hx306_2)
                      (try rw [show 1 * 5 = 5 from rfl] at hx306_2)
                      (try rw [show ((1 : Int)).toNat = 1 from rfl] at hx306_3)
                      (try rw [show 1 * 5 = 5 from rfl] at hx306_3)
                      (try rw [show ((1 : Int)).toNat = 1 from rfl] at hx306_4)
                      (try rw [show 1 * 5 = 5 from rfl] at hx306_4)
                      replace p306 := eq_true p306
                      replace q306 := eq_true q306
                      go_wp2
                      repeat (go_quiet (fail); try go_wp2)
                      go_meet
                      case rel => exact ⟨_, ((((rd_T46 t294 0).f3).extract ((ji46) : Int).toNat ((rd_T46 t294 0).f3).size) ++ ((rd_T46 t294 1).f3)), (by first | rfl | (simp; done) | (simp only [← hji46] <;> (first | rfl | simp)) | (simp [*]; done)), H', ⟨by have := HJ4.out; have := HJ8.out; have := HJ14.out; have := HJ17.out; have := HJ22.out; have := HJ34.out; first | omega | exact Nat.le_refl _⟩, ⟨by (with_reducible repeat (first | apply Kd.R_alloc | apply Kd.R_drewN | apply Kd.R_drew)); exact HO_7.out⟩, ⟨by (with_reducible repeat (first | apply Kd.R_alloc | apply Kd.R_drewN | apply Kd.R_drew)); exact HO303.out⟩, ⟨by (with_reducible repeat (first | refine blk_drewN ?_ _ | refine blk_drew ?_ | refine blk_alloc ?_ _)); exact BK291.out⟩, ⟨by repeat (first | (with_reducible first | exact HB.out | apply below_alloc | apply pw_below_drewN | apply below_drew1 | refine below_set ?_ GE291.out) | exact HB.out)⟩⟩
                     ·rw [if_neg c56] at H
                      exact absurd H (by simp)
                    ·rw [if_neg c55] at H
                     exact absurd H (by simp)
                   ·rw [if_neg c54] at H
                    have c54b0 : decide (1 < (t294.length : Int)) = false := decide_eq_false c54
                    have c54b1 : decide (1 < t294.length) = false := decide_eq_false (by omega)
                    clear c54
                    (first | rw [c54b0] | (simp only [i64_w, i32_w]; rw [c54b0]) | skip)
                    have H' := Aside0.mk H
                    clear H
                    go_wp2
                    repeat (go_quiet (fail); try go_wp2)
                    go_meet
                    case rel => exact ⟨_, (((rd_T46 t294 0).f3).extract ((ji46) : Int).toNat ((rd_T46 t294 0).f3).size), (by first | rfl | (simp; done) | (simp only [← hji46] <;> (first | rfl | simp)) | (simp [*]; done)), H', ⟨by have := HJ4.out; have := HJ8.out; have := HJ14.out; have := HJ17.out; have := HJ22.out; have := HJ34.out; first | omega | exact Nat.le_refl _⟩, ⟨by (with_reducible repeat (first | apply Kd.R_alloc | apply Kd.R_drewN | apply Kd.R_drew)); exact HO_7.out⟩, ⟨by (with_reducible repeat (first | apply Kd.R_alloc | apply Kd.R_drewN | apply Kd.R_drew)); exact HO303.out⟩, ⟨by (with_reducible repeat (first | refine blk_drewN ?_ _ | refine blk_drew ?_ | refine blk_alloc ?_ _)); exact BK291.out⟩, ⟨by repeat (first | (with_reducible first | exact HB.out | apply below_alloc | apply pw_below_drewN | apply below_drew1 | refine below_set ?_ GE291.out) | exact HB.out)⟩⟩
                  case rest =>
                   clear HC49
                   try clear c1
                   try clear c2
                   try clear p2
                   try clear q2
                   try clear hx2
                   try clear qi2
                   try clear c3
                   try clear p3
                   try clear q3
                   try clear hx3
                   try clear qi3
                   try clear c4
                   try clear p4
                   try clear q4
                   try clear hx4
                   try clear hf4
                   try clear c5
                   try clear hx5
                   try clear hf5
                   try clear p6
                   try clear c7
                   try clear c8
                   try clear c11
                   try clear c12
                   try clear c12b0
                   try clear c12b1
                   try clear c13
                   try clear c13b0
                   try clear c13b1
                   try clear c16
                   try clear c21
                   try clear c21b0
                   try clear c21b1
                   try clear c25
                   try clear c26
                   try clear c26b0
                   try clear c26b1
                   try clear c26b2
                   try clear c27
                   try clear c27b0
                   try clear p29
                   try clear q29
                   try clear hx29
                   try clear qi29
                   try clear c30
                   try clear c30b0
                   try clear c30b1
                   try clear p30
                   try clear q30
                   try clear hx30
                   try clear qi30
                   try clear c36
                   try clear c38
                   try clear c42
                   try clear c42b0
                   try clear c43
                   try clear c43b0
                   try clear c44
                   try clear p44
                   try clear q44
                   try clear hx44
                   try clear hf44
                   try clear c45
                   try clear c45b0
                   try clear c45b1
                   try clear c47
                   try clear c47b0
                   try clear c47b1
                   try clear c48
                   try clear c48b0
                   try clear c48b1
                   try clear c52
                   try clear hx52
                   try clear hf52
                   try clear c54
                   try clear c54b0
                   try clear c54b1
                   try clear c55
                   try clear c55b0
                   try clear c55b1
                   try clear c56
                   try clear c56b0
                   try clear c56b1
                   try clear c56b2
                   try clear hcz14_0
                   try clear hcz14_1
                   try clear hcz14_2
                   try clear hcz19_0
                   try clear hcz19_1
                   try clear hcz19_2
                   try clear hcz29_0
                   try clear hcz29_1
                   try clear hcz29_2
                   try clear hcz32_0
                   try clear hcz32_1
                   try clear hcz32_2
                   try clear hfz14_0
                   try clear hfz14_1
                   try clear hfz14_2
                   try clear hfz19_0
                   try clear hfz19_1
                   try clear hfz19_2
                   try clear hfz29_0
                   try clear hfz29_1
                   try clear hfz29_2
                   try clear hfz32_0
                   try clear hfz32_1
                   try clear hfz32_2
                   try clear hx299_0
                   try clear hx299_1
                   try clear hx299_2
                   try clear hx299_3
                   try clear hx299_4
                   try clear hx305_0
                   try clear hx305_1
                   try clear hx305_2
                   try clear hx305_3
                   try clear hx305_4
                   try clear hx306_0
                   try clear hx306_1
                   try clear hx306_2
                   try clear hx306_3
                   try clear hx306_4
                   try clear hx44_0
                   try clear hx44_1
                   try clear hx44_2
                   try clear hx44_3
                   try clear hx44_4
                   try clear hx44_5
                   try clear hx44_6
                   try clear hx52_6
                   try clear p2
                   try clear p29
                   try clear p299
                   try clear p305
                   try clear p306
                   try clear p44
                   try clear q2
                   try clear q29
                   try clear q299
                   try clear q305
                   try clear q306
                   try clear q44
                   obtain ⟨kq, x10_48, rfl, HA, HJ48, HO_7, HO_9, BK291, HB⟩ := hcut
                   have hl9_48 := (Kd.R_reads' HO_9.out).1
                   rw [hl9_48] at HO_9
                   (try simp only [hl9_48])
                   (try simp only [hl9_48] at BK291)
                   (try simp only [hl9_48] at HO_7)
                   cases kq with
                   | zero => exact absurd HA.out (by simp [signalbenchlaw21_SyncAborts.j6])
                   | succ kj48 =>
                    have H := HA.out
                    clear HA
                    simp only [signalbenchlaw21_SyncAborts.j6] at H
                    have H' := Aside0.mk H
                    clear H
                    go_wp2
                    repeat (go_quiet (fail); try go_wp2)
                    go_loopg [11] kj48 (fun kq v11 w' => ∃ (x11_8 : Int), v11 = .int .i64 x11_8 ∧ Aside0 (signalbenchlaw21_SyncAborts.l0 kq l1 a2 t294 y304 x10_48 x11_8 a0_0 a0_1 a0_2 = some r) ∧ Aside0 (kq ≤ kj48) ∧ Aside0 (Kd.R k46 46 w' w.heap.size (fun _ => True) (.slice (some ad305) t294.length co50) t294) ∧ Aside0 (Kd.R k32 32 w' w.heap.size (fun _ => True) (.slice (some ⟨go44, 0, none⟩) y304.length co44) y304) ∧ Aside0 (w'.heap[gb291]? = some (.cells #[.string a0_0, .int .i64 a0_1, .bool a0_2] 23 (0, 0))) ∧ Aside0 (Below w.heap.size w w'))
                    case atStart => exact ⟨(0), (by first | rfl | (simp; done) | (simp [*]; done)), H', ⟨Nat.le_refl _⟩, ⟨by (try simp only [hl9_48]); (with_reducible repeat (first | apply Kd.R_alloc | apply Kd.R_drewN | apply Kd.R_drew)); exact HO_7.out⟩, ⟨by (try simp only [hl9_48]); (with_reducible repeat (first | apply Kd.R_alloc | apply Kd.R_drewN | apply Kd.R_drew)); exact HO_9.out⟩, ⟨by (try simp only [hl9_48]); (with_reducible repeat (first | refine blk_drewN ?_ _ | refine blk_drew ?_ | refine blk_alloc ?_ _)); exact BK291.out⟩, ⟨by repeat (first | (with_reducible first | exact HB.out | apply below_alloc | apply pw_below_drewN | apply below_drew1 | refine below_set ?_ GE291.out) | exact HB.out)⟩⟩
                    case round => as_aux_lemma =>
                     clear H'
                     try clear c1
                     try clear c2
                     try clear p2
                     try clear q2
                     try clear hx2
                     try clear qi2
                     try clear c3
                     try clear p3
                     try clear q3
                     try clear hx3
                     try clear qi3
                     try clear c4
                     try clear p4
                     try clear q4
                     try clear hx4
                     try clear hf4
                     try clear c5
                     try clear hx5
                     try clear hf5
                     try clear p6
                     try clear c7
                     try clear c8
                     try clear c11
                     try clear c12
                     try clear c12b0
                     try clear c12b1
                     try clear c13
                     try clear c13b0
                     try clear c13b1
                     try clear c16
                     try clear c21
                     try clear c21b0
                     try clear c21b1
                     try clear c25
                     try clear c26
                     try clear c26b0
                     try clear c26b1
                     try clear c26b2
                     try clear c27
                     try clear c27b0
                     try clear p29
                     try clear q29
                     try clear hx29
                     try clear qi29
                     try clear c30
                     try clear c30b0
                     try clear c30b1
                     try clear p30
                     try clear q30
                     try clear hx30
                     try clear qi30
                     try clear c36
                     try clear c38
                     try clear c42
                     try clear c42b0
                     try clear c43
                     try clear c43b0
                     try clear c44
                     try clear p44
                     try clear q44
                     try clear hx44
                     try clear hf44
                     try clear c45
                     try clear c45b0
                     try clear c45b1
                     try clear c47
                     try clear c47b0
                     try clear c47b1
                     try clear c48
                     try clear c48b0
                     try clear c48b1
                     try clear c52
                     try clear hx52
                     try clear hf52
                     try clear c54
                     try clear c54b0
                     try clear c54b1
                     try clear c55
                     try clear c55b0
                     try clear c55b1
                     try clear c56
                     try clear c56b0
                     try clear c56b1
                     try clear c56b2
                     try clear hcz14_0
                     try clear hcz14_1
                     try clear hcz14_2
                     try clear hcz19_0
                     try clear hcz19_1
                     try clear hcz19_2
                     try clear hcz29_0
                     try clear hcz29_1
                     try clear hcz29_2
                     try clear hcz32_0
                     try clear hcz32_1
                     try clear hcz32_2
                     try clear hfz14_0
                     try clear hfz14_1
                     try clear hfz14_2
                     try clear hfz19_0
                     try clear hfz19_1
                     try clear hfz19_2
                     try clear hfz29_0
                     try clear hfz29_1
                     try clear hfz29_2
                     try clear hfz32_0
                     try clear hfz32_1
                     try clear hfz32_2
                     try clear hx299_0
                     try clear hx299_1
                     try clear hx299_2
                     try clear hx299_3
                     try clear hx299_4
                     try clear hx305_0
                     try clear hx305_1
                     try clear hx305_2
                     try clear hx305_3
                     try clear hx305_4
                     try clear hx306_0
                     try clear hx306_1
                     try clear hx306_2
                     try clear hx306_3
                     try clear hx306_4
                     try clear hx44_0
                     try clear hx44_1
                     try clear hx44_2
                     try clear hx44_3
                     try clear hx44_4
                     try clear hx44_5
                     try clear hx44_6
                     try clear hx52_6
                     try clear p2
                     try clear p29
                     try clear p299
                     try clear p3
                     try clear p30
                     try clear p305
                     try clear p306
                     try clear p4
                     try clear p44
                     try clear p6
                     try clear q2
                     try clear q29
                     try clear q299
                     try clear q3
                     try clear q30
                     try clear q305
                     try clear q306
                     try clear q4
                     try clear q44
                     obtain ⟨x11_8, rfl, HA, HK8, HO_7, HO_9, BK291, HB⟩ := hrel
                     cases gk with
                     | zero => exact absurd HA.out (by simp [signalbenchlaw21_SyncAborts.l0])
                     | succ k8 =>
                      have H := HA.out
                      clear HA
                      simp only [signalbenchlaw21_SyncAborts.l0] at H
                      have HC57 := Aside0.mk H
                      clear H
                      go_upto_region 16 with (fail)
                      repeat (go_quiet (fail); go_upto_region 16 with (fail))
                      go_cut [122] (fun v122 wc => ∃ (kq : Nat) (x122_56 : Bool), v122 = .bool x122_56 ∧ Aside0 (signalbenchlaw21_SyncAborts.j8 kq l1 a2 t294 y304 x10_48 x11_8 x122_56 a0_0 a0_1 a0_2 = some r) ∧ Aside0 (kq ≤ k8) ∧ Aside0 (Kd.R k46 46 wc w.heap.size (fun _ => True) (.slice (some ad305) t294.length co50) t294) ∧ Aside0 (Kd.R k32 32 wc w.heap.size (fun _ => True) (.slice (some ⟨go44, 0, none⟩) y304.length co44) y304) ∧ Aside0 (wc.heap[gb291]? = some (.cells #[.string a0_0, .int .i64 a0_1, .bool a0_2] 23 (0, 0))) ∧ Aside0 (Below w.heap.size w wc))
                      case first => as_aux_lemma =>
                       have H := HC57.out
                       clear HC57
                       by_cases c58 : 0 < (t294.length : Int)
                       ·rw [if_pos c58] at H
                        have c58b0 : decide (0 < (t294.length : Int)) = true := decide_eq_true c58
                        (try rw [hl9_48] at c58b0)
                        have c58b1 : decide (0 < t294.length) = true := decide_eq_true (by omega)
                        (try rw [hl9_48] at c58b1)
                        clear c58
                        (first | rw [c58b0] | (simp only [i64_w, i32_w]; rw [c58b0]) | skip)
                        by_cases c59 : x11_8 < (wrap64 ((wrap64 ((((rd_T46 t294 0).f3).size : Int) - a2)) - 1))
                        ·rw [if_pos c59] at H
                         have c59b0 : decide (x11_8 < (wrap64 ((wrap64 ((((rd_T46 t294 0).f3).size : Int) - a2)) - 1))) = true := decide_eq_true c59
                         clear c59
                         have H' := Aside0.mk H
                         clear H
                         have p307 : 0 ≤ (0 : Int) := (by omega)
                         have q307 : 0 < (t294.length : Int) := of_decide_eq_true (by first | (with_reducible assumption) | assumption)
                         obtain ⟨ad307, e307, hx307_0, hx307_1, hx307_2, hx307_3, hx307_4⟩ := at_T46 (Kd.R_reads' HO_7.out).2.2 0 p307 q307
                         obtain rfl : ad305 = ad307 := (by injection e307)
                         have qi307 : (0 < t294.length) = True := eq_true (by omega)
                         (try rw [show ((0 : Int)).toNat = 0 from rfl] at hx307_0)
                         (try rw [show 0 * 5 = 0 from rfl] at hx307_0)
                         (try rw [Addr.add_zero'] at hx307_0)
                         (try rw [show ((0 : Int)).toNat = 0 from rfl] at hx307_1)
                         (try rw [show 0 * 5 = 0 from rfl] at hx307_1)
                         (try rw [Addr.add_zero'] at hx307_1)
                         (try rw [show ((0 : Int)).toNat = 0 from rfl] at hx307_2)
                         (try rw [show 0 * 5 = 0 from rfl] at hx307_2)
                         (try rw [Addr.add_zero'] at hx307_2)
                         (try rw [show ((0 : Int)).toNat = 0 from rfl] at hx307_3)
                         (try rw [show 0 * 5 = 0 from rfl] at hx307_3)
                         (try rw [Addr.add_zero'] at hx307_3)
                         (try rw [show ((0 : Int)).toNat = 0 from rfl] at hx307_4)
                         (try rw [show 0 * 5 = 0 from rfl] at hx307_4)
                         (try rw [Addr.add_zero'] at hx307_4)
                         replace p307 := eq_true p307
                         replace q307 := eq_true q307
                         have hcz60_0 : wr.cell? ⟨gb291, 0, none⟩ = some (.string a0_0) := (blk_cell BK291.out 0).trans rfl
                         have hcz60_1 : wr.cell? ⟨gb291, 1, none⟩ = some (.int .i64 a0_1) := (blk_cell BK291.out 1).trans rfl
                         have hcz60_2 : wr.cell? ⟨gb291, 2, none⟩ = some (.bool a0_2) := (blk_cell BK291.out 2).trans rfl
                         have hfz60_0 := blk_frozen BK291.out 0
                         have hfz60_1 := blk_frozen BK291.out 1
                         have hfz60_2 := blk_frozen BK291.out 2
                         go_wp2
                         repeat (go_quiet (fail); try go_wp2)
                         go_meet
                         case rel => exact ⟨_, (decide ((wrap64 (x11_8 + (a0_0.size : Int))) ≤ (x10_48.size : Int))), (by first | rfl | (simp; done) | (simp [*]; done)), H', ⟨by have := HJ4.out; have := HJ8.out; have := HJ14.out; have := HJ17.out; have := HJ22.out; have := HJ34.out; have := HJ48.out; have := HK8.out; first | omega | exact Nat.le_refl _⟩, ⟨by (try simp only [hl9_48]); (with_reducible repeat (first | apply Kd.R_alloc | apply Kd.R_drewN | apply Kd.R_drew)); exact HO_7.out⟩, ⟨by (try simp only [hl9_48]); (with_reducible repeat (first | apply Kd.R_alloc | apply Kd.R_drewN | apply Kd.R_drew)); exact HO_9.out⟩, ⟨by (try simp only [hl9_48]); (with_reducible repeat (first | refine blk_drewN ?_ _ | refine blk_drew ?_ | refine blk_alloc ?_ _)); exact BK291.out⟩, ⟨by repeat (first | (with_reducible first | exact HB.out | apply below_alloc | apply pw_below_drewN | apply below_drew1 | refine below_set ?_ GE291.out) | exact HB.out)⟩⟩
                        ·rw [if_neg c59] at H
                         have c59b0 : decide (x11_8 < (wrap64 ((wrap64 ((((rd_T46 t294 0).f3).size : Int) - a2)) - 1))) = false := decide_eq_false c59
                         clear c59
                         have H' := Aside0.mk H
                         clear H
                         have p307 : 0 ≤ (0 : Int) := (by omega)
                         have q307 : 0 < (t294.length : Int) := of_decide_eq_true (by first | (with_reducible assumption) | assumption)
                         obtain ⟨ad307, e307, hx307_0, hx307_1, hx307_2, hx307_3, hx307_4⟩ := at_T46 (Kd.R_reads' HO_7.out).2.2 0 p307 q307
                         obtain rfl : ad305 = ad307 := (by injection e307)
                         have qi307 : (0 < t294.length) = True := eq_true (by omega)
                         (try rw [show ((0 : Int)).toNat = 0 from rfl] at hx307_0)
                         (try rw [show 0 * 5 = 0 from rfl] at hx307_0)
                         (try rw [Addr.add_zero'] at hx307_0)
                         (try rw [show ((0 : Int)).toNat = 0 from rfl] at hx307_1)
                         (try rw [show 0 * 5 = 0 from rfl] at hx307_1)
                         (try rw [Addr.add_zero'] at hx307_1)
                         (try rw [show ((0 : Int)).toNat = 0 from rfl] at hx307_2)
                         (try rw [show 0 * 5 = 0 from rfl] at hx307_2)
                         (try rw [Addr.add_zero'] at hx307_2)
                         (try rw [show ((0 : Int)).toNat = 0 from rfl] at hx307_3)
                         (try rw [show 0 * 5 = 0 from rfl] at hx307_3)
                         (try rw [Addr.add_zero'] at hx307_3)
                         (try rw [show ((0 : Int)).toNat = 0 from rfl] at hx307_4)
                         (try rw [show 0 * 5 = 0 from rfl] at hx307_4)
                         (try rw [Addr.add_zero'] at hx307_4)
                         replace p307 := eq_true p307
                         replace q307 := eq_true q307
                         go_wp2
                         repeat (go_quiet (fail); try go_wp2)
                         go_meet
                         case rel => exact ⟨_, (false), (by first | rfl | (simp; done) | (simp [*]; done)), H', ⟨by have := HJ4.out; have := HJ8.out; have := HJ14.out; have := HJ17.out; have := HJ22.out; have := HJ34.out; have := HJ48.out; have := HK8.out; first | omega | exact Nat.le_refl _⟩, ⟨by (try simp only [hl9_48]); (with_reducible repeat (first | apply Kd.R_alloc | apply Kd.R_drewN | apply Kd.R_drew)); exact HO_7.out⟩, ⟨by (try simp only [hl9_48]); (with_reducible repeat (first | apply Kd.R_alloc | apply Kd.R_drewN | apply Kd.R_drew)); exact HO_9.out⟩, ⟨by (try simp only [hl9_48]); (with_reducible repeat (first | refine blk_drewN ?_ _ | refine blk_drew ?_ | refine blk_alloc ?_ _)); exact BK291.out⟩, ⟨by repeat (first | (with_reducible first | exact HB.out | apply below_alloc | apply pw_below_drewN | apply below_drew1 | refine below_set ?_ GE291.out) | exact HB.out)⟩⟩
                       ·rw [if_neg c58] at H
                        exact absurd H (by simp)
                      case rest =>
                       clear HC57
                       try clear c1
                       try clear c2
                       try clear p2
                       try clear q2
                       try clear hx2
                       try clear qi2
                       try clear c3
                       try clear p3
                       try clear q3
                       try clear hx3
                       try clear qi3
                       try clear c4
                       try clear p4
                       try clear q4
                       try clear hx4
                       try clear hf4
                       try clear c5
                       try clear hx5
                       try clear hf5
                       try clear p6
                       try clear c7
                       try clear c8
                       try clear c11
                       try clear c12
                       try clear c12b0
                       try clear c12b1
                       try clear c13
                       try clear c13b0
                       try clear c13b1
                       try clear c16
                       try clear c21
                       try clear c21b0
                       try clear c21b1
                       try clear c25
                       try clear c26
                       try clear c26b0
                       try clear c26b1
                       try clear c26b2
                       try clear c27
                       try clear c27b0
                       try clear p29
                       try clear q29
                       try clear hx29
                       try clear qi29
                       try clear c30
                       try clear c30b0
                       try clear c30b1
                       try clear p30
                       try clear q30
                       try clear hx30
                       try clear qi30
                       try clear c36
                       try clear c38
                       try clear c42
                       try clear c42b0
                       try clear c43
                       try clear c43b0
                       try clear c44
                       try clear p44
                       try clear q44
                       try clear hx44
                       try clear hf44
                       try clear c45
                       try clear c45b0
                       try clear c45b1
                       try clear c47
                       try clear c47b0
                       try clear c47b1
                       try clear c48
                       try clear c48b0
                       try clear c48b1
                       try clear c52
                       try clear hx52
                       try clear hf52
                       try clear c54
                       try clear c54b0
                       try clear c54b1
                       try clear c55
                       try clear c55b0
                       try clear c55b1
                       try clear c56
                       try clear c56b0
                       try clear c56b1
                       try clear c56b2
                       try clear c58
                       try clear c58b0
                       try clear c58b1
                       try clear c59
                       try clear c59b0
                       try clear hcz14_0
                       try clear hcz14_1
                       try clear hcz14_2
                       try clear hcz19_0
                       try clear hcz19_1
                       try clear hcz19_2
                       try clear hcz29_0
                       try clear hcz29_1
                       try clear hcz29_2
                       try clear hcz32_0
                       try clear hcz32_1
                       try clear hcz32_2
                       try clear hcz60_0
                       try clear hcz60_1
                       try clear hcz60_2
                       try clear hfz14_0
                       try clear hfz14_1
                       try clear hfz14_2
                       try clear hfz19_0
                       try clear hfz19_1
                       try clear hfz19_2
                       try clear hfz29_0
                       try clear hfz29_1
                       try clear hfz29_2
                       try clear hfz32_0
                       try clear hfz32_1
                       try clear hfz32_2
                       try clear hfz60_0
                       try clear hfz60_1
                       try clear hfz60_2
                       try clear hx299_0
                       try clear hx299_1
                       try clear hx299_2
                       try clear hx299_3
                       try clear hx299_4
                       try clear hx305_0
                       try clear hx305_1
                       try clear hx305_2
                       try clear hx305_3
                       try clear hx305_4
                       try clear hx306_0
                       try clear hx306_1
                       try clear hx306_2
                       try clear hx306_3
                       try clear hx306_4
                       try clear hx307_0
                       try clear hx307_1
                       try clear hx307_2
                       try clear hx307_3
                       try clear hx307_4
                       try clear hx44_0
                       try clear hx44_1
                       try clear hx44_2
                       try clear hx44_3
                       try clear hx44_4
                       try clear hx44_5
                       try clear hx44_6
                       try clear hx52_6
                       try clear p2
                       try clear p29
                       try clear p299
                       try clear p3
                       try clear p30
                       try clear p305
                       try clear p306
                       try clear p307
                       try clear p4
                       try clear p44
                       try clear p6
                       try clear q2
                       try clear q29
                       try clear q299
                       try clear q3
                       try clear q30
                       try clear q305
                       try clear q306
                       try clear q307
                       try clear q4
                       try clear q44
                       obtain ⟨kq, x122_56, rfl, HA, HJ56, HO_7, HO_9, BK291, HB⟩ := hcut
                       cases kq with
                       | zero => exact absurd HA.out (by simp [signalbenchlaw21_SyncAborts.j8])
                       | succ kj56 =>
                        have H := HA.out
                        clear HA
                        simp only [signalbenchlaw21_SyncAborts.j8] at H
                        by_cases c61 : x122_56 = true
                        ·subst c61
                         have H1 : (if 0 ≤ x11_8 then (if x11_8 ≤ (wrap64 (x11_8 + (a0_0.size : Int))) then (if (wrap64 (x11_8 + (a0_0.size : Int))) ≤ (x10_48.size : Int) then (if (x10_48.extract (x11_8 : Int).toNat ((wrap64 (x11_8 + (a0_0.size : Int))) : Int).toNat).toList = a0_0.toList then (some true) else (signalbenchlaw21_SyncAborts.l0 kj56 l1 a2 t294 y304 x10_48 (wrap64 (x11_8 + 1)) a0_0 a0_1 a0_2)) else (none)) else (none)) else (none)) = some r := by rw [if_pos rfl] at H; exact H
                         clear H
                         have H := H1
                         clear H1
                         by_cases c62 : 0 ≤ x11_8
                         ·rw [if_pos c62] at H
                          have c62b0 := eq_true c62
                          have c62b1 : decide (0 ≤ x11_8) = true := decide_eq_true c62
                          clear c62
                          by_cases c63 : x11_8 ≤ (wrap64 (x11_8 + (a0_0.size : Int)))
                          ·rw [if_pos c63] at H
                           have c63b0 := eq_true c63
                           have c63b1 : decide (x11_8 ≤ (wrap64 (x11_8 + (a0_0.size : Int)))) = true := decide_eq_true c63
                           by_cases c64 : (wrap64 (x11_8 + (a0_0.size : Int))) ≤ (x10_48.size : Int)
                           ·rw [if_pos c64] at H
                            have c64b0 := eq_true c64
                            have c64b1 : decide ((wrap64 (x11_8 + (a0_0.size : Int))) ≤ (x10_48.size : Int)) = true := decide_eq_true c64
                            by_cases c65 : (x10_48.extract (x11_8 : Int).toNat ((wrap64 (x11_8 + (a0_0.size : Int))) : Int).toNat).toList = a0_0.toList
                            ·rw [if_pos c65] at H
                             have c65b0 : ((x10_48.extract (x11_8 : Int).toNat ((wrap64 (x11_8 + (a0_0.size : Int))) : Int).toNat).toList == a0_0.toList) = true := beq_iff_eq.mpr c65
                             have c65b1 : ((x10_48.extract (x11_8 : Int).toNat ((wrap64 (x11_8 + (a0_0.size : Int))) : Int).toNat).toList != a0_0.toList) = false := bne_eq_false_iff_eq.mpr c65
                             clear c65
                             obtain rfl := Option.some.inj H
                             have hcz66_0 : wc.cell? ⟨gb291, 0, none⟩ = some (.string a0_0) := (blk_cell BK291.out 0).trans rfl
                             have hcz66_1 : wc.cell? ⟨gb291, 1, none⟩ = some (.int .i64 a0_1) := (blk_cell BK291.out 1).trans rfl
                             have hcz66_2 : wc.cell? ⟨gb291, 2, none⟩ = some (.bool a0_2) := (blk_cell BK291.out 2).trans rfl
                             have hfz66_0 := blk_frozen BK291.out 0
                             have hfz66_1 := blk_frozen BK291.out 1
                             have hfz66_2 := blk_frozen BK291.out 2
                             go_wp2
                             repeat (go_quiet (fail); try go_wp2)
                             go_ret
                             exact ⟨by first | rfl | (simp [errW_none, errW_some] <;> rfl) | (simp only [← hji46]; first | rfl | (simp [errW_none, errW_some] <;> rfl)) | (simp [*, errW_none, errW_some] <;> rfl), by repeat (first | (with_reducible first | exact HB.out | apply below_alloc | apply pw_below_drewN | apply below_drew1 | refine below_set ?_ GE291.out) | exact HB.out)⟩
                            ·rw [if_neg c65] at H
                             have c65b0 : ((x10_48.extract (x11_8 : Int).toNat ((wrap64 (x11_8 + (a0_0.size : Int))) : Int).toNat).toList == a0_0.toList) = false := beq_eq_false_iff_ne.mpr c65
                             have c65b1 : ((x10_48.extract (x11_8 : Int).toNat ((wrap64 (x11_8 + (a0_0.size : Int))) : Int).toNat).toList != a0_0.toList) = true := bne_iff_ne.mpr c65
                             have H' := Aside0.mk H
                             clear H
                             have hcz67_0 : wc.cell? ⟨gb291, 0, none⟩ = some (.string a0_0) := (blk_cell BK291.out 0).trans rfl
                             have hcz67_1 : wc.cell? ⟨gb291, 1, none⟩ = some (.int .i64 a0_1) := (blk_cell BK291.out 1).trans rfl
                             have hcz67_2 : wc.cell? ⟨gb291, 2, none⟩ = some (.bool a0_2) := (blk_cell BK291.out 2).trans rfl
                             have hfz67_0 := blk_frozen BK291.out 0
                             have hfz67_1 := blk_frozen BK291.out 1
                             have hfz67_2 := blk_frozen BK291.out 2
                             go_wp2
                             repeat (go_quiet (fail); try go_wp2)
                             go_roundg kj56
                             case measure => have := HJ4.out; have := HJ8.out; have := HJ14.out; have := HJ17.out; have := HJ22.out; have := HJ34.out; have := HJ48.out; have := HK8.out; have := HJ56.out; omega
                             case rel => exact ⟨(wrap64 (x11_8 + 1)), (by first | rfl | (simp; done) | (simp [*]; done)), H', ⟨by have := HJ4.out; have := HJ8.out; have := HJ14.out; have := HJ17.out; have := HJ22.out; have := HJ34.out; have := HJ48.out; have := HK8.out; have := HJ56.out; omega⟩, ⟨by (try simp only [hl9_48]); (with_reducible repeat (first | apply Kd.R_alloc | apply Kd.R_drewN | apply Kd.R_drew)); exact HO_7.out⟩, ⟨by (try simp only [hl9_48]); (with_reducible repeat (first | apply Kd.R_alloc | apply Kd.R_drewN | apply Kd.R_drew)); exact HO_9.out⟩, ⟨by (try simp only [hl9_48]); (with_reducible repeat (first | refine blk_drewN ?_ _ | refine blk_drew ?_ | refine blk_alloc ?_ _)); exact BK291.out⟩, ⟨by repeat (first | (with_reducible first | exact HB.out | apply below_alloc | apply pw_below_drewN | apply below_drew1 | refine below_set ?_ GE291.out) | exact HB.out)⟩⟩
                           ·rw [if_neg c64] at H
                            exact absurd H (by simp)
                          ·rw [if_neg c63] at H
                           exact absurd H (by simp)
                         ·rw [if_neg c62] at H
                          exact absurd H (by simp)
                        ·replace c61 := Bool.eq_false_iff.mpr c61
                         subst c61
                         have H1 : ((sync_Decode.f kj56 a0_0 a0_1 a0_2 y304).bind fun t308 => (if (t308.length : Int) = (l1.length : Int) then (if 0 < (t308.length : Int) then (if 0 < (l1.length : Int) then (signalbenchlaw21_SyncAborts.j9 kj56 l1 t308 (!(((rd_T32 t308 0).f0) == 5) || (!(((rd_T32 t308 0).f1) == ((rd_T46 l1 0).f0)) || (!(((rd_T32 t308 0).f2) == (wrap64 (((rd_T46 l1 0).f0) + a2))) || (!(((rd_T32 t308 0).f3) == 0) || (!(((rd_T32 t308 0).f4) == 0) || (!((((rd_T32 t308 0).f5).toList) == ([] : List UInt8)) || (!(((rd_T32 t308 0).f6) == 7))))))))) else (none)) else (none)) else (signalbenchlaw21_SyncAborts.j9 kj56 l1 t308 true))) = some r := by rw [if_neg (show ¬ (false = true) by decide)] at H; exact H
                         clear H
                         have H := H1
                         clear H1
                         replace H := Option.bind_eq_some_iff.mp H
                         obtain ⟨t308, A680, H⟩ := H
                         replace H : (if (t308.length : Int) = (l1.length : Int) then (if 0 < (t308.length : Int) then (if 0 < (l1.length : Int) then (signalbenchlaw21_SyncAborts.j9 kj56 l1 t308 (!(((rd_T32 t308 0).f0) == 5) || (!(((rd_T32 t308 0).f1) == ((rd_T46 l1 0).f0)) || (!(((rd_T32 t308 0).f2) == (wrap64 (((rd_T46 l1 0).f0) + a2))) || (!(((rd_T32 t308 0).f3) == 0) || (!(((rd_T32 t308 0).f4) == 0) || (!((((rd_T32 t308 0).f5).toList) == ([] : List UInt8)) || (!(((rd_T32 t308 0).f6) == 7))))))))) else (none)) else (none)) else (signalbenchlaw21_SyncAborts.j9 kj56 l1 t308 true)) = some r := H
                         have A68 := Aside0.mk A680
                         clear A680
                         have HC69 := Aside0.mk H
                         clear H
                         have hcz70_0 : wc.cell? ⟨gb291, 0, none⟩ = some (.string a0_0) := (blk_cell BK291.out 0).trans rfl
                         have hcz70_1 : wc.cell? ⟨gb291, 1, none⟩ = some (.int .i64 a0_1) := (blk_cell BK291.out 1).trans rfl
                         have hcz70_2 : wc.cell? ⟨gb291, 2, none⟩ = some (.bool a0_2) := (blk_cell BK291.out 2).trans rfl
                         have hfz70_0 := blk_frozen BK291.out 0
                         have hfz70_1 := blk_frozen BK291.out 1
                         have hfz70_2 := blk_frozen BK291.out 2
                         go_upto_region 21 with (first | (go_at_call 16; (with_reducible refine (sync_Decode.calls kj56 a0_0 a0_1 a0_2 _ _ y304 t308 _ ?side1 ?side2 A68.out).mono ?_); (case side1 => repeat (first | exact (Kd.R_reads' HO_9.out).2.2 | (with_reducible refine Kd.C_alloc ?_ _) | (with_reducible refine Kd.C_drewN ?_ _) | (with_reducible refine Kd.C_drew ?_))); (case side2 => exact (Kd.R_reads' HO_9.out).2.1); rintro e w71 ⟨v309, rfl, ho0, hb⟩; have n0_ := Aside0.mk (Kd.R_below (rkw HO_7.out) hb); have n1_ := Aside0.mk (Kd.R_elder' (rkw HO_9.out) (Kd.R_base ho0) hb); have n2_ := Aside0.mk (Kd.R_lower (Kd.R_new' ho0 (Kd.R_lt (rkw HO_9.out))) (below_size (hbw HB.out))); have n3_ := Aside0.mk (blkb BK291.out hb); have n4_ := Aside0.mk (below_step (hbw HB.out) hb); clear HO_7; clear HO_9; clear BK291; clear HB; have HO_7 := n0_; have HO_9 := n1_; have HO310 := n2_; have BK291 := n3_; have HB := n4_; clear n0_ n1_ n2_ n3_ n4_; (try clear hb); (try clear hb2); (try clear hk); (try clear hi); (try clear ho0)))
                         repeat (go_quiet (first | (go_at_call 16; (with_reducible refine (sync_Decode.calls kj56 a0_0 a0_1 a0_2 _ _ y304 t308 _ ?side1 ?side2 A68.out).mono ?_); (case side1 => repeat (first | exact (Kd.R_reads' HO_9.out).2.2 | (with_reducible refine Kd.C_alloc ?_ _) | (with_reducible refine Kd.C_drewN ?_ _) | (with_reducible refine Kd.C_drew ?_))); (case side2 => exact (Kd.R_reads' HO_9.out).2.1); rintro e w71 ⟨v309, rfl, ho0, hb⟩; have n0_ := Aside0.mk (Kd.R_below (rkw HO_7.out) hb); have n1_ := Aside0.mk (Kd.R_elder' (rkw HO_9.out) (Kd.R_base ho0) hb); have n2_ := Aside0.mk (Kd.R_lower (Kd.R_new' ho0 (Kd.R_lt (rkw HO_9.out))) (below_size (hbw HB.out))); have n3_ := Aside0.mk (blkb BK291.out hb); have n4_ := Aside0.mk (below_step (hbw HB.out) hb); clear HO_7; clear HO_9; clear BK291; clear HB; have HO_7 := n0_; have HO_9 := n1_; have HO310 := n2_; have BK291 := n3_; have HB := n4_; clear n0_ n1_ n2_ n3_ n4_; (try clear hb); (try clear hb2); (try clear hk); (try clear hi); (try clear ho0))); go_upto_region 21 with (first | (go_at_call 16; (with_reducible refine (sync_Decode.calls kj56 a0_0 a0_1 a0_2 _ _ y304 t308 _ ?side1 ?side2 A68.out).mono ?_); (case side1 => repeat (first | exact (Kd.R_reads' HO_9.out).2.2 | (with_reducible refine Kd.C_alloc ?_ _) | (with_reducible refine Kd.C_drewN ?_ _) | (with_reducible refine Kd.C_drew ?_))); (case side2 => exact (Kd.R_reads' HO_9.out).2.1); rintro e w71 ⟨v309, rfl, ho0, hb⟩; have n0_ := Aside0.mk (Kd.R_below (rkw HO_7.out) hb); have n1_ := Aside0.mk (Kd.R_elder' (rkw HO_9.out) (Kd.R_base ho0) hb); have n2_ := Aside0.mk (Kd.R_lower (Kd.R_new' ho0 (Kd.R_lt (rkw HO_9.out))) (below_size (hbw HB.out))); have n3_ := Aside0.mk (blkb BK291.out hb); have n4_ := Aside0.mk (below_step (hbw HB.out) hb); clear HO_7; clear HO_9; clear BK291; clear HB; have HO_7 := n0_; have HO_9 := n1_; have HO310 := n2_; have BK291 := n3_; have HB := n4_; clear n0_ n1_ n2_ n3_ n4_; (try clear hb); (try clear hb2); (try clear hk); (try clear hi); (try clear ho0))))
                         (try simp only [Act.put, List.setIfInBounds_toArray, List.set_cons_zero, List.set_cons_succ])
                         go_cut [160] (fun v160 wc => ∃ (kq : Nat) (x160_68 : Bool), v160 = .bool x160_68 ∧ Aside0 (signalbenchlaw21_SyncAborts.j9 kq l1 t308 x160_68 = some r) ∧ Aside0 (kq ≤ kj56) ∧ Aside0 (Kd.R k32 32 wc w.heap.size (fun _ => True) v309 t308) ∧ Aside0 (wc.heap[gb291]? = some (.cells #[.string a0_0, .int .i64 a0_1, .bool a0_2] 23 (0, 0))) ∧ Aside0 (Below w.heap.size w wc))
                         case first => as_aux_lemma =>
                          have H := HC69.out
                          clear HC69
                          by_cases c72 : (t308.length : Int) = (l1.length : Int)
                          ·rw [if_pos c72] at H
                           have c72b0 : ((t308.length : Int) == (l1.length : Int)) = true := beq_iff_eq.mpr c72
                           (try rw [hl9_48] at c72b0)
                           have c72b1 : ((t308.length : Int) != (l1.length : Int)) = false := bne_eq_false_iff_eq.mpr c72
                           (try rw [hl9_48] at c72b1)
                           have c72b2 : (t308.length == l1.length) = true := by first | simpa using c72 | (simp at c72 ⊢; omega)
                           (try rw [hl9_48] at c72b2)
                           clear c72
                           (first | rw [c72b0] | (simp only [i64_w, i32_w]; rw [c72b0]) | skip)
                           by_cases c73 : 0 < (t308.length : Int)
                           ·rw [if_pos c73] at H
                            have c73b0 : decide (0 < (t308.length : Int)) = true := decide_eq_true c73
                            (try rw [hl9_48] at c73b0)
                            have c73b1 : decide (0 < t308.length) = true := decide_eq_true (by omega)
                            (try rw [hl9_48] at c73b1)
                            clear c73
                            by_cases c74 : 0 < (l1.length : Int)
                            ·rw [if_pos c74] at H
                             have c74b0 : decide (0 < (l1.length : Int)) = true := decide_eq_true c74
                             (try rw [hl9_48] at c74b0)
                             have c74b1 : decide (0 < l1.length) = true := decide_eq_true (by omega)
                             (try rw [hl9_48] at c74b1)
                             clear c74
                             have H' := Aside0.mk H
                             clear H
                             obtain ⟨Ao75, co75, eo75⟩ := Kd.R_slice HO310.out
                             subst eo75
                             have p311 : 0 ≤ (0 : Int) := (by omega)
                             have q311 : 0 < (t308.length : Int) := of_decide_eq_true (by first | (with_reducible assumption) | assumption)
                             obtain ⟨ad311, e311, hx311_0, hx311_1, hx311_2, hx311_3, hx311_4, hx311_5, hx311_6⟩ := at_T32 (Kd.R_reads' HO310.out).2.2 0 p311 q311
                             cases e311
                             have qi311 : (0 < t308.length) = True := eq_true (by omega)
                             (try rw [show ((0 : Int)).toNat = 0 from rfl] at hx311_0)
                             (try rw [show 0 * 7 = 0 from rfl] at hx311_0)
                             (try rw [Addr.add_zero'] at hx311_0)
                             (try rw [show ((0 : Int)).toNat = 0 from rfl] at hx311_1)
                             (try rw [show 0 * 7 = 0 from rfl] at hx311_1)
                             (try rw [Addr.add_zero'] at hx311_1)
                             (try rw [show ((0 : Int)).toNat = 0 from rfl] at hx311_2)
                             (try rw [show 0 * 7 = 0 from rfl] at hx311_2)
                             (try rw [Addr.add_zero'] at hx311_2)
                             (try rw [show ((0 : Int)).toNat = 0 from rfl] at hx311_3)
                             (try rw [show 0 * 7 = 0 from rfl] at hx311_3)
                             (try rw [Addr.add_zero'] at hx311_3)
                             (try rw [show ((0 : Int)).toNat = 0 from rfl] at hx311_4)
                             (try rw [show 0 * 7 = 0 from rfl] at hx311_4)
                             (try rw [Addr.add_zero'] at hx311_4)
                             (try rw [show ((0 : Int)).toNat = 0 from rfl] at hx311_5)
                             (try rw [show 0 * 7 = 0 from rfl] at hx311_5)
                             (try rw [Addr.add_zero'] at hx311_5)
                             (try rw [show ((0 : Int)).toNat = 0 from rfl] at hx311_6)
                             (try rw [show 0 * 7 = 0 from rfl] at hx311_6)
                             (try rw [Addr.add_zero'] at hx311_6)
                             replace p311 := eq_true p311
                             replace q311 := eq_true q311
                             have p312 : 0 ≤ (0 : Int) := (by omega)
                             have q312 : 0 < (l1.length : Int) := of_decide_eq_true (by first | (with_reducible assumption) | assumption)
                             obtain ⟨ad312, e312, hx312_0, hx312_1, hx312_2, hx312_3, hx312_4⟩ := at_T46 HR1.out 0 p312 q312
                             cases e312
                             have qi312 : (0 < l1.length) = True := eq_true (by omega)
                             (try rw [show ((0 : Int)).toNat = 0 from rfl] at hx312_0)
                             (try rw [show 0 * 5 = 0 from rfl] at hx312_0)
                             (try rw [Addr.add_zero'] at hx312_0)
                             (try rw [show ((0 : Int)).toNat = 0 from rfl] at hx312_1)
                             (try rw [show 0 * 5 = 0 from rfl] at hx312_1)
                             (try rw [Addr.add_zero'] at hx312_1)
                             (try rw [show ((0 : Int)).toNat = 0 from rfl] at hx312_2)
                             (try rw [show 0 * 5 = 0 from rfl] at hx312_2)
                             (try rw [Addr.add_zero'] at hx312_2)
                             (try rw [show ((0 : Int)).toNat = 0 from rfl] at hx312_3)
                             (try rw [show 0 * 5 = 0 from rfl] at hx312_3)
                             (try rw [Addr.add_zero'] at hx312_3)
                             (try rw [show ((0 : Int)).toNat = 0 from rfl] at hx312_4)
                             (try rw [show 0 * 5 = 0 from rfl] at hx312_4)
                             (try rw [Addr.add_zero'] at hx312_4)
                             replace hx312_0 := (HB.out.cell (World.block_lt_of_cell? w _ hx312_0)).trans hx312_0
                             replace hx312_1 := (HB.out.cell (World.block_lt_of_cell? w _ hx312_1)).trans hx312_1
                             replace hx312_2 := (HB.out.cell (World.block_lt_of_cell? w _ hx312_2)).trans hx312_2
                             replace hx312_3 := (HB.out.cell (World.block_lt_of_cell? w _ hx312_3)).trans hx312_3
                             replace hx312_4 := (HB.out.cell (World.block_lt_of_cell? w _ hx312_4)).trans hx312_4
                             replace p312 := eq_true p312
                             replace q312 := eq_true q312
                             have p313 : 0 ≤ (0 : Int) := (by omega)
                             have q313 : 0 < (l1.length : Int) := of_decide_eq_true (by first | (with_reducible assumption) | assumption)
                             obtain ⟨ad313, e313, hx313_0, hx313_1, hx313_2, hx313_3, hx313_4⟩ := at_T46 HR1.out 0 p313 q313
                             obtain rfl : ad312 = ad313 := (by injection e313)
                             have qi313 : (0 < l1.length) = True := eq_true (by omega)
                             (try rw [show ((0 : Int)).toNat = 0 from rfl] at hx313_0)
                             (try rw [show 0 * 5 = 0 from rfl] at hx313_0)
                             (try rw [Addr.add_zero'] at hx313_0)
                             (try rw [show ((0 : Int)).toNat = 0 from rfl] at hx313_1)
                             (try rw [show 0 * 5 = 0 from rfl] at hx313_1)
                             (try rw [Addr.add_zero'] at hx313_1)
                             (try rw [show ((0 : Int)).toNat = 0 from rfl] at hx313_2)
                             (try rw [show 0 * 5 = 0 from rfl] at hx313_2)
                             (try rw [Addr.add_zero'] at hx313_2)
                             (try rw [show ((0 : Int)).toNat = 0 from rfl] at hx313_3)
                             (try rw [show 0 * 5 = 0 from rfl] at hx313_3)
                             (try rw [Addr.add_zero'] at hx313_3)
                             (try rw [show ((0 : Int)).toNat = 0 from rfl] at hx313_4)
                             (try rw [show 0 * 5 = 0 from rfl] at hx313_4)
                             (try rw [Addr.add_zero'] at hx313_4)
                             replace hx313_0 := (HB.out.cell (World.block_lt_of_cell? w _ hx313_0)).trans hx313_0
                             replace hx313_1 := (HB.out.cell (World.block_lt_of_cell? w _ hx313_1)).trans hx313_1
                             replace hx313_2 := (HB.out.cell (World.block_lt_of_cell? w _ hx313_2)).trans hx313_2
                             replace hx313_3 := (HB.out.cell (World.block_lt_of_cell? w _ hx313_3)).trans hx313_3
                             replace hx313_4 := (HB.out.cell (World.block_lt_of_cell? w _ hx313_4)).trans hx313_4
                             replace p313 := eq_true p313
                             replace q313 := eq_true q313
                             go_wp2
                             repeat (go_quiet (fail); try go_wp2)
                             go_meet
                             case rel => exact ⟨_, ((!(((rd_T32 t308 0).f0) == 5) || (!(((rd_T32 t308 0).f1) == ((rd_T46 l1 0).f0)) || (!(((rd_T32 t308 0).f2) == (wrap64 (((rd_T46 l1 0).f0) + a2))) || (!(((rd_T32 t308 0).f3) == 0) || (!(((rd_T32 t308 0).f4) == 0) || (!((((rd_T32 t308 0).f5).toList) == ([] : List UInt8)) || (!(((rd_T32 t308 0).f6) == 7))))))))), (by first | rfl | (simp; done) | (simp [*]; done)), H', ⟨by have := HJ4.out; have := HJ8.out; have := HJ14.out; have := HJ17.out; have := HJ22.out; have := HJ34.out; have := HJ48.out; have := HK8.out; have := HJ56.out; first | omega | exact Nat.le_refl _⟩, ⟨by (try simp only [hl9_48]); (with_reducible repeat (first | apply Kd.R_alloc | apply Kd.R_drewN | apply Kd.R_drew)); exact Kd.R_mono HO310.out (fun _ hk => trivial)⟩, ⟨by (try simp only [hl9_48]); (with_reducible repeat (first | refine blk_drewN ?_ _ | refine blk_drew ?_ | refine blk_alloc ?_ _)); exact BK291.out⟩, ⟨by repeat (first | (with_reducible first | exact HB.out | apply below_alloc | apply pw_below_drewN | apply below_drew1 | refine below_set ?_ GE291.out) | exact HB.out)⟩⟩
                            ·rw [if_neg c74] at H
                             exact absurd H (by simp)
                           ·rw [if_neg c73] at H
                            exact absurd H (by simp)
                          ·rw [if_neg c72] at H
                           have c72b0 : ((t308.length : Int) == (l1.length : Int)) = false := beq_eq_false_iff_ne.mpr c72
                           (try rw [hl9_48] at c72b0)
                           have c72b1 : ((t308.length : Int) != (l1.length : Int)) = true := bne_iff_ne.mpr c72
                           (try rw [hl9_48] at c72b1)
                           have c72b2 : (t308.length == l1.length) = false := by first | simpa using c72 | (simp at c72 ⊢; omega)
                           (try rw [hl9_48] at c72b2)
                           (first | rw [c72b0] | (simp only [i64_w, i32_w]; rw [c72b0]) | skip)
                           have H' := Aside0.mk H
                           clear H
                           obtain ⟨Ao76, co76, eo76⟩ := Kd.R_slice HO310.out
                           subst eo76
                           go_wp2
                           repeat (go_quiet (fail); try go_wp2)
                           go_meet
                           case rel => exact ⟨_, (true), (by first | rfl | (simp; done) | (simp [*]; done)), H', ⟨by have := HJ4.out; have := HJ8.out; have := HJ14.out; have := HJ17.out; have := HJ22.out; have := HJ34.out; have := HJ48.out; have := HK8.out; have := HJ56.out; first | omega | exact Nat.le_refl _⟩, ⟨by (try simp only [hl9_48]); (with_reducible repeat (first | apply Kd.R_alloc | apply Kd.R_drewN | apply Kd.R_drew)); exact Kd.R_mono HO310.out (fun _ hk => trivial)⟩, ⟨by (try simp only [hl9_48]); (with_reducible repeat (first | refine blk_drewN ?_ _ | refine blk_drew ?_ | refine blk_alloc ?_ _)); exact BK291.out⟩, ⟨by repeat (first | (with_reducible first | exact HB.out | apply below_alloc | apply pw_below_drewN | apply below_drew1 | refine below_set ?_ GE291.out) | exact HB.out)⟩⟩
                         case rest =>
                          clear HC69
                          try clear c1
                          try clear c2
                          try clear p2
                          try clear q2
                          try clear hx2
                          try clear qi2
                          try clear c3
                          try clear p3
                          try clear q3
                          try clear hx3
                          try clear qi3
                          try clear c4
                          try clear p4
                          try clear q4
                          try clear hx4
                          try clear hf4
                          try clear c5
                          try clear hx5
                          try clear hf5
                          try clear c6
                          try clear p6
                          try clear c7
                          try clear c8
                          try clear c11
                          try clear c12
                          try clear c12b0
                          try clear c12b1
                          try clear c13
                          try clear c13b0
                          try clear c13b1
                          try clear c16
                          try clear c21
                          try clear c21b0
                          try clear c21b1
                          try clear c25
                          try clear c26
                          try clear c26b0
                          try clear c26b1
                          try clear c26b2
                          try clear c27
                          try clear c27b0
                          try clear p29
                          try clear q29
                          try clear hx29
                          try clear qi29
                          try clear c30
                          try clear c30b0
                          try clear c30b1
                          try clear p30
                          try clear q30
                          try clear hx30
                          try clear qi30
                          try clear p31
                          try clear q31
                          try clear hx31
                          try clear qi31
                          try clear c36
                          try clear c38
                          try clear c42
                          try clear c42b0
                          try clear c43
                          try clear c43b0
                          try clear c44
                          try clear p44
                          try clear q44
                          try clear hx44
                          try clear hf44
                          try clear c45
                          try clear c45b0
                          try clear c45b1
                          try clear c47
                          try clear c47b0
                          try clear c47b1
                          try clear c48
                          try clear c48b0
                          try clear c48b1
                          try clear c52
                          try clear hx52
                          try clear hf52
                          try clear c54
                          try clear c54b0
                          try clear c54b1
                          try clear c55
                          try clear c55b0
                          try clear c55b1
                          try clear c56
                          try clear c56b0
                          try clear c56b1
                          try clear c56b2
                          try clear c58
                          try clear c58b0
                          try clear c58b1
                          try clear c59
                          try clear c59b0
                          try clear c61
                          try clear c62
                          try clear c62b0
                          try clear c62b1
                          try clear c63
                          try clear c63b0
                          try clear c63b1
                          try clear c64
                          try clear c64b0
                          try clear c64b1
                          try clear p64
                          try clear c65
                          try clear c65b0
                          try clear c65b1
                          try clear c72
                          try clear c72b0
                          try clear c72b1
                          try clear c72b2
                          try clear c73
                          try clear c73b0
                          try clear c73b1
                          try clear c74
                          try clear c74b0
                          try clear c74b1
                          try clear hcz14_0
                          try clear hcz14_1
                          try clear hcz14_2
                          try clear hcz19_0
                          try clear hcz19_1
                          try clear hcz19_2
                          try clear hcz29_0
                          try clear hcz29_1
                          try clear hcz29_2
                          try clear hcz32_0
                          try clear hcz32_1
                          try clear hcz32_2
                          try clear hcz60_0
                          try clear hcz60_1
                          try clear hcz60_2
                          try clear hcz66_0
                          try clear hcz66_1
                          try clear hcz66_2
                          try clear hcz67_0
                          try clear hcz67_1
                          try clear hcz67_2
                          try clear hcz70_0
                          try clear hcz70_1
                          try clear hcz70_2
                          try clear hfz14_0
                          try clear hfz14_1
                          try clear hfz14_2
                          try clear hfz19_0
                          try clear hfz19_1
                          try clear hfz19_2
                          try clear hfz29_0
                          try clear hfz29_1
                          try clear hfz29_2
                          try clear hfz32_0
                          try clear hfz32_1
                          try clear hfz32_2
                          try clear hfz60_0
                          try clear hfz60_1
                          try clear hfz60_2
                          try clear hfz66_0
                          try clear hfz66_1
                          try clear hfz66_2
                          try clear hfz67_0
                          try clear hfz67_1
                          try clear hfz67_2
                          try clear hfz70_0
                          try clear hfz70_1
                          try clear hfz70_2
                          try clear hx299_0
                          try clear hx299_1
                          try clear hx299_2
                          try clear hx299_3
                          try clear hx299_4
                          try clear hx305_0
                          try clear hx305_1
                          try clear hx305_2
                          try clear hx305_3
                          try clear hx305_4
                          try clear hx306_0
                          try clear hx306_1
                          try clear hx306_2
                          try clear hx306_3
                          try clear hx306_4
                          try clear hx307_0
                          try clear hx307_1
                          try clear hx307_2
                          try clear hx307_3
                          try clear hx307_4
                          try clear hx311_0
                          try clear hx311_1
                          try clear hx311_2
                          try clear hx311_3
                          try clear hx311_4
                          try clear hx311_5
                          try clear hx311_6
                          try clear hx312_0
                          try clear hx312_1
                          try clear hx312_2
                          try clear hx312_3
                          try clear hx312_4
                          try clear hx313_0
                          try clear hx313_1
                          try clear hx313_2
                          try clear hx313_3
                          try clear hx313_4
                          try clear hx44_0
                          try clear hx44_1
                          try clear hx44_2
                          try clear hx44_3
                          try clear hx44_4
                          try clear hx44_5
                          try clear hx44_6
                          try clear hx52_6
                          try clear p2
                          try clear p29
                          try clear p299
                          try clear p3
                          try clear p30
                          try clear p305
                          try clear p306
                          try clear p307
                          try clear p311
                          try clear p312
                          try clear p313
                          try clear p4
                          try clear p44
                          try clear p6
                          try clear q2
                          try clear q29
                          try clear q299
                          try clear q3
                          try clear q30
                          try clear q305
                          try clear q306
                          try clear q307
                          try clear q311
                          try clear q312
                          try clear q313
                          try clear q4
                          try clear q44
                          obtain ⟨kq, x160_68, rfl, HA, HJ68, HO_12, BK291, HB⟩ := hcut
                          cases kq with
                          | zero => exact absurd HA.out (by simp [signalbenchlaw21_SyncAborts.j9])
                          | succ kj68 =>
                           have H := HA.out
                           clear HA
                           simp only [signalbenchlaw21_SyncAborts.j9] at H
                           have HC77 := Aside0.mk H
                           clear H
                           go_upto_if 160 with (fail)
                           repeat (go_quiet (fail); go_upto_if 160 with (fail))
                           go_cut [] (fun wc => ∃ (kq : Nat), Aside0 (signalbenchlaw21_SyncAborts.j10 kq l1 t308 = some r) ∧ Aside0 (kq ≤ kj68) ∧ Aside0 (Kd.R k32 32 wc w.heap.size (fun _ => True) v309 t308) ∧ Aside0 (wc.heap[gb291]? = some (.cells #[.string a0_0, .int .i64 a0_1, .bool a0_2] 23 (0, 0))) ∧ Aside0 (Below w.heap.size w wc))
                           case first => as_aux_lemma =>
                            have H := HC77.out
                            clear HC77
                            by_cases c78 : x160_68 = true
                            ·subst c78
                             have H1 : (some false) = some r := by rw [if_pos rfl] at H; exact H
                             clear H
                             have H := H1
                             clear H1
                             obtain rfl := Option.some.inj H
                             go_wp2
                             repeat (go_quiet (fail); try go_wp2)
                             go_ret
                             exact ⟨by first | rfl | (simp [errW_none, errW_some] <;> rfl) | (simp only [← hji46]; first | rfl | (simp [errW_none, errW_some] <;> rfl)) | (simp [*, errW_none, errW_some] <;> rfl), by repeat (first | (with_reducible first | exact HB.out | apply below_alloc | apply pw_below_drewN | apply below_drew1 | refine below_set ?_ GE291.out) | exact HB.out)⟩
                            ·replace c78 := Bool.eq_false_iff.mpr c78
                             subst c78
                             have H1 : (signalbenchlaw21_SyncAborts.j10 kj68 l1 t308) = some r := by rw [if_neg (show ¬ (false = true) by decide)] at H; exact H
                             clear H
                             have H := H1
                             clear H1
                             have H' := Aside0.mk H
                             clear H
                             go_wp2
                             repeat (go_quiet (fail); try go_wp2)
                             go_meet
                             case rel => exact ⟨_, H', ⟨by have := HJ4.out; have := HJ8.out; have := HJ14.out; have := HJ17.out; have := HJ22.out; have := HJ34.out; have := HJ48.out; have := HK8.out; have := HJ56.out; have := HJ68.out; first | omega | exact Nat.le_refl _⟩, ⟨by (try simp only [hl9_48]); (with_reducible repeat (first | apply Kd.R_alloc | apply Kd.R_drewN | apply Kd.R_drew)); exact HO_12.out⟩, ⟨by (try simp only [hl9_48]); (with_reducible repeat (first | refine blk_drewN ?_ _ | refine blk_drew ?_ | refine blk_alloc ?_ _)); exact BK291.out⟩, ⟨by repeat (first | (with_reducible first | exact HB.out | apply below_alloc | apply pw_below_drewN | apply below_drew1 | refine below_set ?_ GE291.out) | exact HB.out)⟩⟩
                           case rest =>
                            clear HC77
                            try clear c1
                            try clear c2
                            try clear p2
                            try clear q2
                            try clear hx2
                            try clear qi2
                            try clear c3
                            try clear p3
                            try clear q3
                            try clear hx3
                            try clear qi3
                            try clear c4
                            try clear p4
                            try clear q4
                            try clear hx4
                            try clear hf4
                            try clear c5
                            try clear hx5
                            try clear hf5
                            try clear c6
                            try clear p6
                            try clear c7
                            try clear c8
                            try clear c11
                            try clear c12
                            try clear c12b0
                            try clear c12b1
                            try clear c13
                            try clear c13b0
                            try clear c13b1
                            try clear c16
                            try clear c21
                            try clear c21b0
                            try clear c21b1
                            try clear c25
                            try clear c26
                            try clear c26b0
                            try clear c26b1
                            try clear c26b2
                            try clear c27
                            try clear c27b0
                            try clear p29
                            try clear q29
                            try clear hx29
                            try clear qi29
                            try clear c30
                            try clear c30b0
                            try clear c30b1
                            try clear p30
                            try clear q30
                            try clear hx30
                            try clear qi30
                            try clear p31
                            try clear q31
                            try clear hx31
                            try clear qi31
                            try clear c36
                            try clear c38
                            try clear c42
                            try clear c42b0
                            try clear c43
                            try clear c43b0
                            try clear c44
                            try clear p44
                            try clear q44
                            try clear hx44
                            try clear hf44
                            try clear c45
                            try clear c45b0
                            try clear c45b1
                            try clear c47
                            try clear c47b0
                            try clear c47b1
                            try clear c48
                            try clear c48b0
                            try clear c48b1
                            try clear c52
                            try clear hx52
                            try clear hf52
                            try clear c54
                            try clear c54b0
                            try clear c54b1
                            try clear c55
                            try clear c55b0
                            try clear c55b1
                            try clear c56
                            try clear c56b0
                            try clear c56b1
                            try clear c56b2
                            try clear c58
                            try clear c58b0
                            try clear c58b1
                            try clear c59
                            try clear c59b0
                            try clear c61
                            try clear c62
                            try clear c62b0
                            try clear c62b1
                            try clear c63
                            try clear c63b0
                            try clear c63b1
                            try clear c64
                            try clear c64b0
                            try clear c64b1
                            try clear p64
                            try clear c65
                            try clear c65b0
                            try clear c65b1
                            try clear c72
                            try clear c72b0
                            try clear c72b1
                            try clear c72b2
                            try clear c73
                            try clear c73b0
                            try clear c73b1
                            try clear c74
                            try clear c74b0
                            try clear c74b1
                            try clear c78
                            try clear hcz14_0
                            try clear hcz14_1
                            try clear hcz14_2
                            try clear hcz19_0
                            try clear hcz19_1
                            try clear hcz19_2
                            try clear hcz29_0
                            try clear hcz29_1
                            try clear hcz29_2
                            try clear hcz32_0
                            try clear hcz32_1
                            try clear hcz32_2
                            try clear hcz60_0
                            try clear hcz60_1
                            try clear hcz60_2
                            try clear hcz66_0
                            try clear hcz66_1
                            try clear hcz66_2
                            try clear hcz67_0
                            try clear hcz67_1
                            try clear hcz67_2
                            try clear hcz70_0
                            try clear hcz70_1
                            try clear hcz70_2
                            try clear hfz14_0
                            try clear hfz14_1
                            try clear hfz14_2
                            try clear hfz19_0
                            try clear hfz19_1
                            try clear hfz19_2
                            try clear hfz29_0
                            try clear hfz29_1
                            try clear hfz29_2
                            try clear hfz32_0
                            try clear hfz32_1
                            try clear hfz32_2
                            try clear hfz60_0
                            try clear hfz60_1
                            try clear hfz60_2
                            try clear hfz66_0
                            try clear hfz66_1
                            try clear hfz66_2
                            try clear hfz67_0
                            try clear hfz67_1
                            try clear hfz67_2
                            try clear hfz70_0
                            try clear hfz70_1
                            try clear hfz70_2
                            try clear hx299_0
                            try clear hx299_1
                            try clear hx299_2
                            try clear hx299_3
                            try clear hx299_4
                            try clear hx305_0
                            try clear hx305_1
                            try clear hx305_2
                            try clear hx305_3
                            try clear hx305_4
                            try clear hx306_0
                            try clear hx306_1
                            try clear hx306_2
                            try clear hx306_3
                            try clear hx306_4
                            try clear hx307_0
                            try clear hx307_1
                            try clear hx307_2
                            try clear hx307_3
                            try clear hx307_4
                            try clear hx311_0
                            try clear hx311_1
                            try clear hx311_2
                            try clear hx311_3
                            try clear hx311_4
                            try clear hx311_5
                            try clear hx311_6
                            try clear hx312_0
                            try clear hx312_1
                            try clear hx312_2
                            try clear hx312_3
                            try clear hx312_4
                            try clear hx313_0
                            try clear hx313_1
                            try clear hx313_2
                            try clear hx313_3
                            try clear hx313_4
                            try clear hx44_0
                            try clear hx44_1
                            try clear hx44_2
                            try clear hx44_3
                            try clear hx44_4
                            try clear hx44_5
                            try clear hx44_6
                            try clear hx52_6
                            try clear p2
                            try clear p29
                            try clear p299
                            try clear p3
                            try clear p30
                            try clear p305
                            try clear p306
                            try clear p307
                            try clear p31
                            try clear p311
                            try clear p312
                            try clear p313
                            try clear p4
                            try clear p44
                            try clear p6
                            try clear p64
                            try clear q2
                            try clear q29
                            try clear q299
                            try clear q3
                            try clear q30
                            try clear q305
                            try clear q306
                            try clear q307
                            try clear q31
                            try clear q311
                            try clear q312
                            try clear q313
                            try clear q4
                            try clear q44
                            obtain ⟨kq, HA, HJ76, HO_12, BK291, HB⟩ := hcut
                            cases kq with
                            | zero => exact absurd HA.out (by simp [signalbenchlaw21_SyncAborts.j10])
                            | succ kj76 =>
                             have H := HA.out
                             clear HA
                             simp only [signalbenchlaw21_SyncAborts.j10] at H
                             have H' := Aside0.mk H
                             clear H
                             go_wp2
                             repeat (go_quiet (fail); try go_wp2)
                             go_loopg [13] kj76 (fun kq v13 w' => ∃ (x13_12 : Int), v13 = .int .i64 x13_12 ∧ Aside0 (signalbenchlaw21_SyncAborts.l1 kq l1 t308 x13_12 = some r) ∧ Aside0 (kq ≤ kj76) ∧ Aside0 (Kd.R k32 32 w' w.heap.size (fun _ => True) v309 t308) ∧ Aside0 (w'.heap[gb291]? = some (.cells #[.string a0_0, .int .i64 a0_1, .bool a0_2] 23 (0, 0))) ∧ Aside0 (Below w.heap.size w w'))
                             case atStart => exact ⟨(1), (by first | rfl | (simp; done) | (simp [*]; done)), H', ⟨Nat.le_refl _⟩, ⟨by (try simp only [hl9_48]); (with_reducible repeat (first | apply Kd.R_alloc | apply Kd.R_drewN | apply Kd.R_drew)); exact HO_12.out⟩, ⟨by (try simp only [hl9_48]); (with_reducible repeat (first | refine blk_drewN ?_ _ | refine blk_drew ?_ | refine blk_alloc ?_ _)); exact BK291.out⟩, ⟨by repeat (first | (with_reducible first | exact HB.out | apply below_alloc | apply pw_below_drewN | apply below_drew1 | refine below_set ?_ GE291.out) | exact HB.out)⟩⟩
                             case round => as_aux_lemma =>
                              clear H'
                              try clear c1
                              try clear c2
                              try clear p2
                              try clear q2
                              try clear hx2
                              try clear qi2
                              try clear c3
                              try clear p3
                              try clear q3
                              try clear hx3
                              try clear qi3
                              try clear c4
                              try clear p4
                              try clear q4
                              try clear hx4
                              try clear hf4
                              try clear c5
                              try clear hx5
                              try clear hf5
                              try clear c6
                              try clear p6
                              try clear c7
                              try clear c8
                              try clear c11
                              try clear c12
                              try clear c12b0
                              try clear c12b1
                              try clear c13
                              try clear c13b0
                              try clear c13b1
                              try clear c16
                              try clear c21
                              try clear c21b0
                              try clear c21b1
                              try clear c25
                              try clear c26
                              try clear c26b0
                              try clear c26b1
                              try clear c26b2
                              try clear c27
                              try clear c27b0
                              try clear p29
                              try clear q29
                              try clear hx29
                              try clear qi29
                              try clear c30
                              try clear c30b0
                              try clear c30b1
                              try clear p30
                              try clear q30
                              try clear hx30
                              try clear qi30
                              try clear p31
                              try clear q31
                              try clear hx31
                              try clear qi31
                              try clear c36
                              try clear c38
                              try clear c42
                              try clear c42b0
                              try clear c43
                              try clear c43b0
                              try clear c44
                              try clear p44
                              try clear q44
                              try clear hx44
                              try clear hf44
                              try clear c45
                              try clear c45b0
                              try clear c45b1
                              try clear c47
                              try clear c47b0
                              try clear c47b1
                              try clear c48
                              try clear c48b0
                              try clear c48b1
                              try clear c52
                              try clear hx52
                              try clear hf52
                              try clear c54
                              try clear c54b0
                              try clear c54b1
                              try clear c55
                              try clear c55b0
                              try clear c55b1
                              try clear c56
                              try clear c56b0
                              try clear c56b1
                              try clear c56b2
                              try clear c58
                              try clear c58b0
                              try clear c58b1
                              try clear c59
                              try clear c59b0
                              try clear c61
                              try clear c62
                              try clear c62b0
                              try clear c62b1
                              try clear c63
                              try clear c63b0
                              try clear c63b1
                              try clear c64
                              try clear c64b0
                              try clear c64b1
                              try clear p64
                              try clear c65
                              try clear c65b0
                              try clear c65b1
                              try clear c72
                              try clear c72b0
                              try clear c72b1
                              try clear c72b2
                              try clear c73
                              try clear c73b0
                              try clear c73b1
                              try clear c74
                              try clear c74b0
                              try clear c74b1
                              try clear c78
                              try clear hcz14_0
                              try clear hcz14_1
                              try clear hcz14_2
                              try clear hcz19_0
                              try clear hcz19_1
                              try clear hcz19_2
                              try clear hcz29_0
                              try clear hcz29_1
                              try clear hcz29_2
                              try clear hcz32_0
                              try clear hcz32_1
                              try clear hcz32_2
                              try clear hcz60_0
                              try clear hcz60_1
                              try clear hcz60_2
                              try clear hcz66_0
                              try clear hcz66_1
                              try clear hcz66_2
                              try clear hcz67_0
                              try clear hcz67_1
                              try clear hcz67_2
                              try clear hcz70_0
                              try clear hcz70_1
                              try clear hcz70_2
                              try clear hfz14_0
                              try clear hfz14_1
                              try clear hfz14_2
                              try clear hfz19_0
                              try clear hfz19_1
                              try clear hfz19_2
                              try clear hfz29_0
                              try clear hfz29_1
                              try clear hfz29_2
                              try clear hfz32_0
                              try clear hfz32_1
                              try clear hfz32_2
                              try clear hfz60_0
                              try clear hfz60_1
                              try clear hfz60_2
                              try clear hfz66_0
                              try clear hfz66_1
                              try clear hfz66_2
                              try clear hfz67_0
                              try clear hfz67_1
                              try clear hfz67_2
                              try clear hfz70_0
                              try clear hfz70_1
                              try clear hfz70_2
                              try clear hx299_0
                              try clear hx299_1
                              try clear hx299_2
                              try clear hx299_3
                              try clear hx299_4
                              try clear hx305_0
                              try clear hx305_1
                              try clear hx305_2
                              try clear hx305_3
                              try clear hx305_4
                              try clear hx306_0
                              try clear hx306_1
                              try clear hx306_2
                              try clear hx306_3
                              try clear hx306_4
                              try clear hx307_0
                              try clear hx307_1
                              try clear hx307_2
                              try clear hx307_3
                              try clear hx307_4
                              try clear hx311_0
                              try clear hx311_1
                              try clear hx311_2
                              try clear hx311_3
                              try clear hx311_4
                              try clear hx311_5
                              try clear hx311_6
                              try clear hx312_0
                              try clear hx312_1
                              try clear hx312_2
                              try clear hx312_3
                              try clear hx312_4
                              try clear hx313_0
                              try clear hx313_1
                              try clear hx313_2
                              try clear hx313_3
                              try clear hx313_4
                              try clear hx44_0
                              try clear hx44_1
                              try clear hx44_2
                              try clear hx44_3
                              try clear hx44_4
                              try clear hx44_5
                              try clear hx44_6
                              try clear hx52_6
                              try clear p2
                              try clear p29
                              try clear p299
                              try clear p3
                              try clear p30
                              try clear p305
                              try clear p306
                              try clear p307
                              try clear p31
                              try clear p311
                              try clear p312
                              try clear p313
                              try clear p4
                              try clear p44
                              try clear p6
                              try clear p64
                              try clear q2
                              try clear q29
                              try clear q299
                              try clear q3
                              try clear q30
                              try clear q305
                              try clear q306
                              try clear q307
                              try clear q31
                              try clear q311
                              try clear q312
                              try clear q313
                              try clear q4
                              try clear q44
                              obtain ⟨x13_12, rfl, HA, HK12, HO_12, BK291, HB⟩ := hrel
                              cases gk with
                              | zero => exact absurd HA.out (by simp [signalbenchlaw21_SyncAborts.l1])
                              | succ k12 =>
                               have H := HA.out
                               clear HA
                               simp only [signalbenchlaw21_SyncAborts.l1] at H
                               by_cases c79 : x13_12 < (l1.length : Int)
                               ·rw [if_pos c79] at H
                                have c79b0 : decide (x13_12 < (l1.length : Int)) = true := decide_eq_true c79
                                (try rw [hl9_48] at c79b0)
                                clear c79
                                by_cases c80 : 0 ≤ x13_12
                                ·rw [if_pos c80] at H
                                 have c80b0 : decide (0 ≤ x13_12) = true := decide_eq_true c80
                                 clear c80
                                 by_cases c81 : x13_12 < (t308.length : Int)
                                 ·rw [if_pos c81] at H
                                  have c81b0 : decide (x13_12 < (t308.length : Int)) = true := decide_eq_true c81
                                  (try rw [hl9_48] at c81b0)
                                  clear c81
                                  by_cases c82 : ((rd_T32 t308 x13_12).f5).toList = ((rd_T46 l1 x13_12).f3).toList
                                  ·rw [if_pos c82] at H
                                   have c82b0 : (((rd_T32 t308 x13_12).f5).toList == ((rd_T46 l1 x13_12).f3).toList) = true := beq_iff_eq.mpr c82
                                   have c82b1 : (((rd_T32 t308 x13_12).f5).toList != ((rd_T46 l1 x13_12).f3).toList) = false := bne_eq_false_iff_eq.mpr c82
                                   clear c82
                                   by_cases c83 : ((rd_T32 t308 x13_12).f6) = 0
                                   ·rw [if_pos c83] at H
                                    have c83b0 : (((rd_T32 t308 x13_12).f6) == 0) = true := beq_iff_eq.mpr c83
                                    have c83b1 : (((rd_T32 t308 x13_12).f6) != 0) = false := bne_eq_false_iff_eq.mpr c83
                                    clear c83
                                    have H' := Aside0.mk H
                                    clear H
                                    obtain ⟨Ao84, co84, eo84⟩ := Kd.R_slice HO_12.out
                                    subst eo84
                                    have p314 : 0 ≤ (x13_12 : Int) := of_decide_eq_true (by first | (with_reducible assumption) | assumption)
                                    have q314 : x13_12 < (t308.length : Int) := of_decide_eq_true (by first | (with_reducible assumption) | assumption)
                                    obtain ⟨ad314, e314, hx314_0, hx314_1, hx314_2, hx314_3, hx314_4, hx314_5, hx314_6⟩ := at_T32 (Kd.R_reads' HO_12.out).2.2 x13_12 p314 q314
                                    cases e314
                                    replace p314 := eq_true p314
                                    replace q314 := eq_true q314
                                    have p315 : 0 ≤ (x13_12 : Int) := of_decide_eq_true (by first | (with_reducible assumption) | assumption)
                                    have q315 : x13_12 < (l1.length : Int) := of_decide_eq_true (by first | (with_reducible assumption) | assumption)
                                    obtain ⟨ad315, e315, hx315_0, hx315_1, hx315_2, hx315_3, hx315_4⟩ := at_T46 HR1.out x13_12 p315 q315
                                    cases e315
                                    replace hx315_0 := (HB.out.cell (World.block_lt_of_cell? w _ hx315_0)).trans hx315_0
                                    replace hx315_1 := (HB.out.cell (World.block_lt_of_cell? w _ hx315_1)).trans hx315_1
                                    replace hx315_2 := (HB.out.cell (World.block_lt_of_cell? w _ hx315_2)).trans hx315_2
                                    replace hx315_3 := (HB.out.cell (World.block_lt_of_cell? w _ hx315_3)).trans hx315_3
                                    replace hx315_4 := (HB.out.cell (World.block_lt_of_cell? w _ hx315_4)).trans hx315_4
                                    replace p315 := eq_true p315
                                    replace q315 := eq_true q315
                                    have p316 : 0 ≤ (x13_12 : Int) := of_decide_eq_true (by first | (with_reducible assumption) | assumption)
                                    have q316 : x13_12 < (t308.length : Int) := of_decide_eq_true (by first | (with_reducible assumption) | assumption)
                                    obtain ⟨ad316, e316, hx316_0, hx316_1, hx316_2, hx316_3, hx316_4, hx316_5, hx316_6⟩ := at_T32 (Kd.R_reads' HO_12.out).2.2 x13_12 p316 q316
                                    obtain rfl : ad314 = ad316 := (by injection e316)
                                    replace p316 := eq_true p316
                                    replace q316 := eq_true q316
                                    go_wp2
                                    repeat (go_quiet (fail); try go_wp2)
                                    go_roundg k12
                                    case measure => have := HJ4.out; have := HJ8.out; have := HJ14.out; have := HJ17.out; have := HJ22.out; have := HJ34.out; have := HJ48.out; have := HK8.out; have := HJ56.out; have := HJ68.out; have := HJ76.out; have := HK12.out; omega
                                    case rel => exact ⟨(wrap64 (x13_12 + 1)), (by first | rfl | (simp; done) | (simp [*]; done)), H', ⟨by have := HJ4.out; have := HJ8.out; have := HJ14.out; have := HJ17.out; have := HJ22.out; have := HJ34.out; have := HJ48.out; have := HK8.out; have := HJ56.out; have := HJ68.out; have := HJ76.out; have := HK12.out; omega⟩, ⟨by (try simp only [hl9_48]); (with_reducible repeat (first | apply Kd.R_alloc | apply Kd.R_drewN | apply Kd.R_drew)); exact HO_12.out⟩, ⟨by (try simp only [hl9_48]); (with_reducible repeat (first | refine blk_drewN ?_ _ | refine blk_drew ?_ | refine blk_alloc ?_ _)); exact BK291.out⟩, ⟨by repeat (first | (with_reducible first | exact HB.out | apply below_alloc | apply pw_below_drewN | apply below_drew1 | refine below_set ?_ GE291.out) | exact HB.out)⟩⟩
                                   ·rw [if_neg c83] at H
                                    have c83b0 : (((rd_T32 t308 x13_12).f6) == 0) = false := beq_eq_false_iff_ne.mpr c83
                                    have c83b1 : (((rd_T32 t308 x13_12).f6) != 0) = true := bne_iff_ne.mpr c83
                                    obtain rfl := Option.some.inj H
                                    obtain ⟨Ao85, co85, eo85⟩ := Kd.R_slice HO_12.out
                                    subst eo85
                                    have p314 : 0 ≤ (x13_12 : Int) := of_decide_eq_true (by first | (with_reducible assumption) | assumption)
                                    have q314 : x13_12 < (t308.length : Int) := of_decide_eq_true (by first | (with_reducible assumption) | assumption)
                                    obtain ⟨ad314, e314, hx314_0, hx314_1, hx314_2, hx314_3, hx314_4, hx314_5, hx314_6⟩ := at_T32 (Kd.R_reads' HO_12.out).2.2 x13_12 p314 q314
                                    cases e314
                                    replace p314 := eq_true p314
                                    replace q314 := eq_true q314
                                    have p315 : 0 ≤ (x13_12 : Int) := of_decide_eq_true (by first | (with_reducible assumption) | assumption)
                                    have q315 : x13_12 < (l1.length : Int) := of_decide_eq_true (by first | (with_reducible assumption) | assumption)
                                    obtain ⟨ad315, e315, hx315_0, hx315_1, hx315_2, hx315_3, hx315_4⟩ := at_T46 HR1.out x13_12 p315 q315
                                    cases e315
                                    replace hx315_0 := (HB.out.cell (World.block_lt_of_cell? w _ hx315_0)).trans hx315_0
                                    replace hx315_1 := (HB.out.cell (World.block_lt_of_cell? w _ hx315_1)).trans hx315_1
                                    replace hx315_2 := (HB.out.cell (World.block_lt_of_cell? w _ hx315_2)).trans hx315_2
                                    replace hx315_3 := (HB.out.cell (World.block_lt_of_cell? w _ hx315_3)).trans hx315_3
                                    replace hx315_4 := (HB.out.cell (World.block_lt_of_cell? w _ hx315_4)).trans hx315_4
                                    replace p315 := eq_true p315
                                    replace q315 := eq_true q315
                                    have p316 : 0 ≤ (x13_12 : Int) := of_decide_eq_true (by first | (with_reducible assumption) | assumption)
                                    have q316 : x13_12 < (t308.length : Int) := of_decide_eq_true (by first | (with_reducible assumption) | assumption)
                                    obtain ⟨ad316, e316, hx316_0, hx316_1, hx316_2, hx316_3, hx316_4, hx316_5, hx316_6⟩ := at_T32 (Kd.R_reads' HO_12.out).2.2 x13_12 p316 q316
                                    obtain rfl : ad314 = ad316 := (by injection e316)
                                    replace p316 := eq_true p316
                                    replace q316 := eq_true q316
                                    go_wp2
                                    repeat (go_quiet (fail); try go_wp2)
                                    go_ret
                                    exact ⟨by first | rfl | (simp [errW_none, errW_some] <;> rfl) | (simp only [← hji46]; first | rfl | (simp [errW_none, errW_some] <;> rfl)) | (simp [*, errW_none, errW_some] <;> rfl), by repeat (first | (with_reducible first | exact HB.out | apply below_alloc | apply pw_below_drewN | apply below_drew1 | refine below_set ?_ GE291.out) | exact HB.out)⟩
                                  ·rw [if_neg c82] at H
                                   have c82b0 : (((rd_T32 t308 x13_12).f5).toList == ((rd_T46 l1 x13_12).f3).toList) = false := beq_eq_false_iff_ne.mpr c82
                                   have c82b1 : (((rd_T32 t308 x13_12).f5).toList != ((rd_T46 l1 x13_12).f3).toList) = true := bne_iff_ne.mpr c82
                                   obtain rfl := Option.some.inj H
                                   obtain ⟨Ao86, co86, eo86⟩ := Kd.R_slice HO_12.out
                                   subst eo86
                                   have p314 : 0 ≤ (x13_12 : Int) := of_decide_eq_true (by first | (with_reducible assumption) | assumption)
                                   have q314 : x13_12 < (t308.length : Int) := of_decide_eq_true (by first | (with_reducible assumption) | assumption)
                                   obtain ⟨ad314, e314, hx314_0, hx314_1, hx314_2, hx314_3, hx314_4, hx314_5, hx314_6⟩ := at_T32 (Kd.R_reads' HO_12.out).2.2 x13_12 p314 q314
                                   cases e314
                                   replace p314 := eq_true p314
                                   replace q314 := eq_true q314
                                   have p315 : 0 ≤ (x13_12 : Int) := of_decide_eq_true (by first | (with_reducible assumption) | assumption)
                                   have q315 : x13_12 < (l1.length : Int) := of_decide_eq_true (by first | (with_reducible assumption) | assumption)
                                   obtain ⟨ad315, e315, hx315_0, hx315_1, hx315_2, hx315_3, hx315_4⟩ := at_T46 HR1.out x13_12 p315 q315
                                   cases e315
                                   replace hx315_0 := (HB.out.cell (World.block_lt_of_cell? w _ hx315_0)).trans hx315_0
                                   replace hx315_1 := (HB.out.cell (World.block_lt_of_cell? w _ hx315_1)).trans hx315_1
                                   replace hx315_2 := (HB.out.cell (World.block_lt_of_cell? w _ hx315_2)).trans hx315_2
                                   replace hx315_3 := (HB.out.cell (World.block_lt_of_cell? w _ hx315_3)).trans hx315_3
                                   replace hx315_4 := (HB.out.cell (World.block_lt_of_cell? w _ hx315_4)).trans hx315_4
                                   replace p315 := eq_true p315
                                   replace q315 := eq_true q315
                                   go_wp2
                                   repeat (go_quiet (fail); try go_wp2)
                                   go_ret
                                   exact ⟨by first | rfl | (simp [errW_none, errW_some] <;> rfl) | (simp only [← hji46]; first | rfl | (simp [errW_none, errW_some] <;> rfl)) | (simp [*, errW_none, errW_some] <;> rfl), by repeat (first | (with_reducible first | exact HB.out | apply below_alloc | apply pw_below_drewN | apply below_drew1 | refine below_set ?_ GE291.out) | exact HB.out)⟩
                                 ·rw [if_neg c81] at H
                                  exact absurd H (by simp)
                                ·rw [if_neg c80] at H
                                 exact absurd H (by simp)
                               ·rw [if_neg c79] at H
                                have c79b0 : decide (x13_12 < (l1.length : Int)) = false := decide_eq_false c79
                                (try rw [hl9_48] at c79b0)
                                clear c79
                                obtain rfl := Option.some.inj H
                                go_wp2
                                repeat (go_quiet (fail); try go_wp2)
                                go_ret
                                exact ⟨by first | rfl | (simp [errW_none, errW_some] <;> rfl) | (simp only [← hji46]; first | rfl | (simp [errW_none, errW_some] <;> rfl)) | (simp [*, errW_none, errW_some] <;> rfl), by repeat (first | (with_reducible first | exact HB.out | apply below_alloc | apply pw_below_drewN | apply below_drew1 | refine below_set ?_ GE291.out) | exact HB.out)⟩
                 ·rw [if_neg c48] at H
                  exact absurd H (by simp)
                ·rw [if_neg c47] at H
                 exact absurd H (by simp)
               ·rw [if_neg c45] at H
                exact absurd H (by simp)
              ·rw [if_neg c43] at H
               exact absurd H (by simp)
             ·rw [if_neg c42] at H
              exact absurd H (by simp)

/-- THE ONE PURE STATEMENT of signalbenchlaw21_SyncAborts: yours. -/
def signalbenchlaw21_SyncAborts.Pure : Prop := ∀ (a0_0 : ByteArray) (a0_1 : Int) (a0_2 : Bool) (l1 : List (S46)) (a2 : Int), a0_0.size ≤ 140737488351232 → (Lit.int .i64 a0_1).wf = true → l1.length ≤ maxLen → l1.length * 48 ≤ 140737488351232 → (∀ x ∈ l1, (Lit.int .i64 x.f0).wf = true ∧ (Lit.int .i64 x.f1).wf = true ∧ (Lit.int .i64 x.f2).wf = true ∧ x.f3.size ≤ 140737488351232 ∧ (Lit.int .i64 x.f4).wf = true) → (Lit.int .i64 a2).wf = true → ∃ k, signalbenchlaw21_SyncAborts.f k a0_0 a0_1 a0_2 l1 a2 = some true
theorem signalbenchlaw21_SyncAborts.walk (P : signalbenchlaw21_SyncAborts.Pure) (a0_0 : ByteArray) (a0_1 : Int) (a0_2 : Bool) (A1 : Option Addr) (c1 : Nat) (l1 : List (S46)) (a2 : Int) (w : World) (hr1 : Kd.C k46 w A1 l1.length l1) (hc1 : l1.length ≤ c1) (w0_ : a0_0.size ≤ 140737488351232) (w1_ : (Lit.int .i64 a0_1).wf = true) (w2_ : l1.length ≤ maxLen) (w3_ : l1.length * 48 ≤ 140737488351232) (w4_ : (∀ x ∈ l1, (Lit.int .i64 x.f0).wf = true ∧ (Lit.int .i64 x.f1).wf = true ∧ (Lit.int .i64 x.f2).wf = true ∧ x.f3.size ≤ 140737488351232 ∧ (Lit.int .i64 x.f4).wf = true)) (w5_ : (Lit.int .i64 a2).wf = true) :
  Calls Try.prog 7 #[.agg #[.string a0_0, .int .i64 a0_1, .bool a0_2], .slice A1 l1.length c1, .int .i64 a2] w fun e w' => e = .returned (.bool true) ∧ Below w.heap.size w w' := by
 obtain ⟨k, h⟩ := P a0_0 a0_1 a0_2 l1 a2 w0_ w1_ w2_ w3_ w4_ w5_
 refine (signalbenchlaw21_SyncAborts.calls k a0_0 a0_1 a0_2 A1 c1 l1 a2 true w hr1 hc1 h).mono ?_
 rintro e w' ⟨rfl, hd⟩
 exact ⟨rfl, hd⟩

end Go.Proofs.Ytbggkaofkohecaa.PSyncAborts
