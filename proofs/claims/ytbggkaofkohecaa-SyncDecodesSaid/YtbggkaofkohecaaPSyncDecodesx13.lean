-- Written by a program of this session (wip/tools/pr.py), which calls the kit's print with changes of its own.
import Derived.Test.YtbggkaofkohecaaPSyncDecodesx0
import Derived.Test.YtbggkaofkohecaaPSyncDecodesx10
import Derived.Test.YtbggkaofkohecaaPSyncDecodesx11
import Derived.Test.YtbggkaofkohecaaPSyncDecodesx12
namespace Go.Proofs.Ytbggkaofkohecaa.PSyncDecodes
open Go.RowKit Go.Proofs.YtbggkaofkohecaaW.PrintWords Go.Proofs.YtbggkaofkohecaaW.PrintLast Go.Proofs.YtbggkaofkohecaaW.PrintMore
attribute [local go_sem] max2_int min2_int max_two min_two max_three min_three max_four min_four   -- for this text's walks alone
set_option linter.unusedVariables false
set_option linter.unusedSimpArgs false

/-! ### signalbenchref21_Step: function 12 -/
mutual
def signalbenchref21_Step.j0 : Nat → Bool → ByteArray → Int → Bool → Int → Int → Int → Int → Int → Int → Int → ByteArray → Int → Int → Int → Int → Int → ByteArray → Int → Option (Int × Int × Int × Int × Int × Int × Int × ByteArray × (List (S32)))
 | 0, _, _, _, _, _, _, _, _, _, _, _, _, _, _, _, _, _, _, _ => none
 | k + 1, x19, x338000, x338001, x338002, x339000, x339001, x339002, x339003, x339004, x339005, x339006, x339007, x340000, x340001, x340002, x340003, x340004, x340005, x340006 => if x19 = true then (some (x339000, x339001, x339002, x339003, x339004, x339005, x339006, x339007, ([] : List (S32)))) else (signalbenchref21_Step.j1 k x338000 x338001 x338002 x339000 x339001 x339002 x339003 x339004 x339005 x339006 x339007 x340000 x340001 x340002 x340003 x340004 x340005 x340006)
def signalbenchref21_Step.j1 : Nat → ByteArray → Int → Bool → Int → Int → Int → Int → Int → Int → Int → ByteArray → Int → Int → Int → Int → Int → ByteArray → Int → Option (Int × Int × Int × Int × Int × Int × Int × ByteArray × (List (S32)))
 | 0, _, _, _, _, _, _, _, _, _, _, _, _, _, _, _, _, _, _ => none
 | k + 1, x338000, x338001, x338002, x339000, x339001, x339002, x339003, x339004, x339005, x339006, x339007, x340000, x340001, x340002, x340003, x340004, x340005, x340006 => if x340006 = 0 then (signalbenchref21_Step.j2 k x338000 x338001 x338002 x339000 x340002 x339002 x339003 x339004 x339005 x340001 x339007 x340000 x340001 x340002 x340003 x340004 x340005 x340006) else ((signalbenchref21_again.f x339000 x340002 x339002 x339003 x339004 x339005 x340001 x339007).bind fun bt343 => ((signalbenchref21_collected.f x339000 x340002 x339002 x339003 x339004 x339005 x340001 x339007 x340001).bind fun t351 => (some (bt343.1, bt343.2.1, bt343.2.2.1, bt343.2.2.2.1, bt343.2.2.2.2.1, bt343.2.2.2.2.2.1, bt343.2.2.2.2.2.2.1, bt343.2.2.2.2.2.2.2, t351))))
def signalbenchref21_Step.j2 : Nat → ByteArray → Int → Bool → Int → Int → Int → Int → Int → Int → Int → ByteArray → Int → Int → Int → Int → Int → ByteArray → Int → Option (Int × Int × Int × Int × Int × Int × Int × ByteArray × (List (S32)))
 | 0, _, _, _, _, _, _, _, _, _, _, _, _, _, _, _, _, _, _ => none
 | k + 1, x338000, x338001, x338002, x339000, x339001, x339002, x339003, x339004, x339005, x339006, x339007, x340000, x340001, x340002, x340003, x340004, x340005, x340006 => if x340003 = 1 then (signalbenchref21_Step.j3 k (⟨#[49]⟩ : ByteArray) x338000 x338001 x338002 x339000 x339001 x339002 x339003 x339004 x339005 x339006 x339007 x340000 x340001 x340002 x340003 x340004 x340005 x340006) else (signalbenchref21_Step.j3 k (⟨#[48]⟩ : ByteArray) x338000 x338001 x338002 x339000 x339001 x339002 x339003 x339004 x339005 x339006 x339007 x340000 x340001 x340002 x340003 x340004 x340005 x340006)
def signalbenchref21_Step.j3 : Nat → ByteArray → ByteArray → Int → Bool → Int → Int → Int → Int → Int → Int → Int → ByteArray → Int → Int → Int → Int → Int → ByteArray → Int → Option (Int × Int × Int × Int × Int × Int × Int × ByteArray × (List (S32)))
 | 0, _, _, _, _, _, _, _, _, _, _, _, _, _, _, _, _, _, _, _ => none
 | k + 1, x8, x338000, x338001, x338002, x339000, x339001, x339002, x339003, x339004, x339005, x339006, x339007, x340000, x340001, x340002, x340003, x340004, x340005, x340006 => if x339000 = 0 then ((signalbenchref21_search.f k x338000 x338001 x338002 x339000 x339001 x339002 x339003 x339004 x339005 x339006 x339007 x8 x340001).bind fun bt354 => (some (bt354.1, bt354.2.1, bt354.2.2.1, bt354.2.2.2.1, bt354.2.2.2.2.1, bt354.2.2.2.2.2.1, bt354.2.2.2.2.2.2.1, bt354.2.2.2.2.2.2.2, ([] : List (S32))))) else (if x339007.size + x8.size ≤ 9223372036854775807 then (if ((x339007 ++ x8).size : Int) < (wrap64 (8 * x338001)) then (some (x339000, x339001, x339002, x339003, x339004, x339005, x339006, x339007 ++ x8, ([] : List (S32)))) else ((signalbenchref03_Bytes.f k (x339007 ++ x8) x338002).bind fun bt362 => ((signalbenchref21_again.f x339000 x339001 x339002 x339003 x339004 x339005 x339006 (x339007 ++ x8)).bind fun bt364 => (some (bt364.1, bt364.2.1, bt364.2.2.1, bt364.2.2.2.1, bt364.2.2.2.2.1, bt364.2.2.2.2.2.1, bt364.2.2.2.2.2.2.1, bt364.2.2.2.2.2.2.2, (([(⟨5, x339002, x340002, 0, 0, bt362.1, 0⟩ : S32)] : List (S32)))))))) else (none))
end
def signalbenchref21_Step.f (k : Nat) (a0_0 : ByteArray) (a0_1 : Int) (a0_2 : Bool) (a1_0 : Int) (a1_1 : Int) (a1_2 : Int) (a1_3 : Int) (a1_4 : Int) (a1_5 : Int) (a1_6 : Int) (a1_7 : ByteArray) (a2_0 : Int) (a2_1 : Int) (a2_2 : Int) (a2_3 : Int) (a2_4 : Int) (a2_5 : ByteArray) (a2_6 : Int) : Option (Int × Int × Int × Int × Int × Int × Int × ByteArray × (List (S32))) := (signalbenchref21_Check.f k a0_0 a0_1 a0_2).bind fun t341 => (if t341 = 0 then ((signalbenchref21_accepted.f a1_0 a1_1 a1_2 a1_3 a1_4 a1_5 a1_6 a1_7 a2_0 a2_1 a2_2 a2_3 a2_4 a2_5 a2_6).bind fun t342 => (signalbenchref21_Step.j0 k (!t342) a0_0 a0_1 a0_2 a1_0 a1_1 a1_2 a1_3 a1_4 a1_5 a1_6 a1_7 a2_0 a2_1 a2_2 a2_3 a2_4 a2_5 a2_6)) else (signalbenchref21_Step.j0 k true a0_0 a0_1 a0_2 a1_0 a1_1 a1_2 a1_3 a1_4 a1_5 a1_6 a1_7 a2_0 a2_1 a2_2 a2_3 a2_4 a2_5 a2_6))
theorem signalbenchref21_Step.mono_l : ∀ k, (∀ y0 y1 y2 y3 y4 y5 y6 y7 y8 y9 y10 y11 y12 y13 y14 y15 y16 y17 y18, LeO (signalbenchref21_Step.j0 k y0 y1 y2 y3 y4 y5 y6 y7 y8 y9 y10 y11 y12 y13 y14 y15 y16 y17 y18) (signalbenchref21_Step.j0 (k + 1) y0 y1 y2 y3 y4 y5 y6 y7 y8 y9 y10 y11 y12 y13 y14 y15 y16 y17 y18)) ∧ (∀ y0 y1 y2 y3 y4 y5 y6 y7 y8 y9 y10 y11 y12 y13 y14 y15 y16 y17, LeO (signalbenchref21_Step.j1 k y0 y1 y2 y3 y4 y5 y6 y7 y8 y9 y10 y11 y12 y13 y14 y15 y16 y17) (signalbenchref21_Step.j1 (k + 1) y0 y1 y2 y3 y4 y5 y6 y7 y8 y9 y10 y11 y12 y13 y14 y15 y16 y17)) ∧ (∀ y0 y1 y2 y3 y4 y5 y6 y7 y8 y9 y10 y11 y12 y13 y14 y15 y16 y17, LeO (signalbenchref21_Step.j2 k y0 y1 y2 y3 y4 y5 y6 y7 y8 y9 y10 y11 y12 y13 y14 y15 y16 y17) (signalbenchref21_Step.j2 (k + 1) y0 y1 y2 y3 y4 y5 y6 y7 y8 y9 y10 y11 y12 y13 y14 y15 y16 y17)) ∧ (∀ y0 y1 y2 y3 y4 y5 y6 y7 y8 y9 y10 y11 y12 y13 y14 y15 y16 y17 y18, LeO (signalbenchref21_Step.j3 k y0 y1 y2 y3 y4 y5 y6 y7 y8 y9 y10 y11 y12 y13 y14 y15 y16 y17 y18) (signalbenchref21_Step.j3 (k + 1) y0 y1 y2 y3 y4 y5 y6 y7 y8 y9 y10 y11 y12 y13 y14 y15 y16 y17 y18))
 | 0 => ⟨fun _ _ _ _ _ _ _ _ _ _ _ _ _ _ _ _ _ _ _ r h => by simp [signalbenchref21_Step.j0] at h, fun _ _ _ _ _ _ _ _ _ _ _ _ _ _ _ _ _ _ r h => by simp [signalbenchref21_Step.j1] at h, fun _ _ _ _ _ _ _ _ _ _ _ _ _ _ _ _ _ _ r h => by simp [signalbenchref21_Step.j2] at h, fun _ _ _ _ _ _ _ _ _ _ _ _ _ _ _ _ _ _ _ r h => by simp [signalbenchref21_Step.j3] at h⟩
 | k + 1 => by
  obtain ⟨ih0, ih1, ih2, ih3⟩ := signalbenchref21_Step.mono_l k
  refine ⟨?_, ?_, ?_, ?_⟩
  ·intro y0 y1 y2 y3 y4 y5 y6 y7 y8 y9 y10 y11 y12 y13 y14 y15 y16 y17 y18
   unfold signalbenchref21_Step.j0
   repeat' first
   | (with_reducible exact ih0 _ _ _ _ _ _ _ _ _ _ _ _ _ _ _ _ _ _ _)
   | (with_reducible exact ih1 _ _ _ _ _ _ _ _ _ _ _ _ _ _ _ _ _ _)
   | (with_reducible exact ih2 _ _ _ _ _ _ _ _ _ _ _ _ _ _ _ _ _ _)
   | (with_reducible exact ih3 _ _ _ _ _ _ _ _ _ _ _ _ _ _ _ _ _ _ _)
   | (with_reducible exact signalbenchref03_Bytes.mono _ _ _)
   | (with_reducible exact signalbenchref21_Check.mono _ _ _ _)
   | (with_reducible exact signalbenchref21_search.mono _ _ _ _ _ _ _ _ _ _ _ _ _ _)
   | (with_reducible exact LeO.refl _)
   | (with_reducible exact LeO.none _)
   | (with_reducible refine LeO.ite ?_ ?_)
   | (with_reducible refine LeO.bind ?_ (fun _ => ?_))
   | exact ih0 _ _ _ _ _ _ _ _ _ _ _ _ _ _ _ _ _ _ _
   | exact ih1 _ _ _ _ _ _ _ _ _ _ _ _ _ _ _ _ _ _
   | exact ih2 _ _ _ _ _ _ _ _ _ _ _ _ _ _ _ _ _ _
   | exact ih3 _ _ _ _ _ _ _ _ _ _ _ _ _ _ _ _ _ _ _
   | exact signalbenchref03_Bytes.mono _ _ _
   | exact signalbenchref21_Check.mono _ _ _ _
   | exact signalbenchref21_search.mono _ _ _ _ _ _ _ _ _ _ _ _ _ _
   | exact LeO.none _
   | refine LeO.ite ?_ ?_
   | refine LeO.bind ?_ (fun _ => ?_)
  ·intro y0 y1 y2 y3 y4 y5 y6 y7 y8 y9 y10 y11 y12 y13 y14 y15 y16 y17
   unfold signalbenchref21_Step.j1
   repeat' first
   | (with_reducible exact ih0 _ _ _ _ _ _ _ _ _ _ _ _ _ _ _ _ _ _ _)
   | (with_reducible exact ih1 _ _ _ _ _ _ _ _ _ _ _ _ _ _ _ _ _ _)
   | (with_reducible exact ih2 _ _ _ _ _ _ _ _ _ _ _ _ _ _ _ _ _ _)
   | (with_reducible exact ih3 _ _ _ _ _ _ _ _ _ _ _ _ _ _ _ _ _ _ _)
   | (with_reducible exact signalbenchref03_Bytes.mono _ _ _)
   | (with_reducible exact signalbenchref21_Check.mono _ _ _ _)
   | (with_reducible exact signalbenchref21_search.mono _ _ _ _ _ _ _ _ _ _ _ _ _ _)
   | (with_reducible exact LeO.refl _)
   | (with_reducible exact LeO.none _)
   | (with_reducible refine LeO.ite ?_ ?_)
   | (with_reducible refine LeO.bind ?_ (fun _ => ?_))
   | exact ih0 _ _ _ _ _ _ _ _ _ _ _ _ _ _ _ _ _ _ _
   | exact ih1 _ _ _ _ _ _ _ _ _ _ _ _ _ _ _ _ _ _
   | exact ih2 _ _ _ _ _ _ _ _ _ _ _ _ _ _ _ _ _ _
   | exact ih3 _ _ _ _ _ _ _ _ _ _ _ _ _ _ _ _ _ _ _
   | exact signalbenchref03_Bytes.mono _ _ _
   | exact signalbenchref21_Check.mono _ _ _ _
   | exact signalbenchref21_search.mono _ _ _ _ _ _ _ _ _ _ _ _ _ _
   | exact LeO.none _
   | refine LeO.ite ?_ ?_
   | refine LeO.bind ?_ (fun _ => ?_)
  ·intro y0 y1 y2 y3 y4 y5 y6 y7 y8 y9 y10 y11 y12 y13 y14 y15 y16 y17
   unfold signalbenchref21_Step.j2
   repeat' first
   | (with_reducible exact ih0 _ _ _ _ _ _ _ _ _ _ _ _ _ _ _ _ _ _ _)
   | (with_reducible exact ih1 _ _ _ _ _ _ _ _ _ _ _ _ _ _ _ _ _ _)
   | (with_reducible exact ih2 _ _ _ _ _ _ _ _ _ _ _ _ _ _ _ _ _ _)
   | (with_reducible exact ih3 _ _ _ _ _ _ _ _ _ _ _ _ _ _ _ _ _ _ _)
   | (with_reducible exact signalbenchref03_Bytes.mono _ _ _)
   | (with_reducible exact signalbenchref21_Check.mono _ _ _ _)
   | (with_reducible exact signalbenchref21_search.mono _ _ _ _ _ _ _ _ _ _ _ _ _ _)
   | (with_reducible exact LeO.refl _)
   | (with_reducible exact LeO.none _)
   | (with_reducible refine LeO.ite ?_ ?_)
   | (with_reducible refine LeO.bind ?_ (fun _ => ?_))
   | exact ih0 _ _ _ _ _ _ _ _ _ _ _ _ _ _ _ _ _ _ _
   | exact ih1 _ _ _ _ _ _ _ _ _ _ _ _ _ _ _ _ _ _
   | exact ih2 _ _ _ _ _ _ _ _ _ _ _ _ _ _ _ _ _ _
   | exact ih3 _ _ _ _ _ _ _ _ _ _ _ _ _ _ _ _ _ _ _
   | exact signalbenchref03_Bytes.mono _ _ _
   | exact signalbenchref21_Check.mono _ _ _ _
   | exact signalbenchref21_search.mono _ _ _ _ _ _ _ _ _ _ _ _ _ _
   | exact LeO.none _
   | refine LeO.ite ?_ ?_
   | refine LeO.bind ?_ (fun _ => ?_)
  ·intro y0 y1 y2 y3 y4 y5 y6 y7 y8 y9 y10 y11 y12 y13 y14 y15 y16 y17 y18
   unfold signalbenchref21_Step.j3
   repeat' first
   | (with_reducible exact ih0 _ _ _ _ _ _ _ _ _ _ _ _ _ _ _ _ _ _ _)
   | (with_reducible exact ih1 _ _ _ _ _ _ _ _ _ _ _ _ _ _ _ _ _ _)
   | (with_reducible exact ih2 _ _ _ _ _ _ _ _ _ _ _ _ _ _ _ _ _ _)
   | (with_reducible exact ih3 _ _ _ _ _ _ _ _ _ _ _ _ _ _ _ _ _ _ _)
   | (with_reducible exact signalbenchref03_Bytes.mono _ _ _)
   | (with_reducible exact signalbenchref21_Check.mono _ _ _ _)
   | (with_reducible exact signalbenchref21_search.mono _ _ _ _ _ _ _ _ _ _ _ _ _ _)
   | (with_reducible exact LeO.refl _)
   | (with_reducible exact LeO.none _)
   | (with_reducible refine LeO.ite ?_ ?_)
   | (with_reducible refine LeO.bind ?_ (fun _ => ?_))
   | exact ih0 _ _ _ _ _ _ _ _ _ _ _ _ _ _ _ _ _ _ _
   | exact ih1 _ _ _ _ _ _ _ _ _ _ _ _ _ _ _ _ _ _
   | exact ih2 _ _ _ _ _ _ _ _ _ _ _ _ _ _ _ _ _ _
   | exact ih3 _ _ _ _ _ _ _ _ _ _ _ _ _ _ _ _ _ _ _
   | exact signalbenchref03_Bytes.mono _ _ _
   | exact signalbenchref21_Check.mono _ _ _ _
   | exact signalbenchref21_search.mono _ _ _ _ _ _ _ _ _ _ _ _ _ _
   | exact LeO.none _
   | refine LeO.ite ?_ ?_
   | refine LeO.bind ?_ (fun _ => ?_)
theorem signalbenchref21_Step.mono : ∀ a0 a1 a2 a3 a4 a5 a6 a7 a8 a9 a10 a11 a12 a13 a14 a15 a16 a17 k, LeO (signalbenchref21_Step.f k a0 a1 a2 a3 a4 a5 a6 a7 a8 a9 a10 a11 a12 a13 a14 a15 a16 a17) (signalbenchref21_Step.f (k + 1) a0 a1 a2 a3 a4 a5 a6 a7 a8 a9 a10 a11 a12 a13 a14 a15 a16 a17) := by
 intro a0 a1 a2 a3 a4 a5 a6 a7 a8 a9 a10 a11 a12 a13 a14 a15 a16 a17 k
 obtain ⟨ih0, ih1, ih2, ih3⟩ := signalbenchref21_Step.mono_l k
 unfold signalbenchref21_Step.f
 repeat' first
   | (with_reducible exact ih0 _ _ _ _ _ _ _ _ _ _ _ _ _ _ _ _ _ _ _)
   | (with_reducible exact ih1 _ _ _ _ _ _ _ _ _ _ _ _ _ _ _ _ _ _)
   | (with_reducible exact ih2 _ _ _ _ _ _ _ _ _ _ _ _ _ _ _ _ _ _)
   | (with_reducible exact ih3 _ _ _ _ _ _ _ _ _ _ _ _ _ _ _ _ _ _ _)
   | (with_reducible exact signalbenchref03_Bytes.mono _ _ _)
   | (with_reducible exact signalbenchref21_Check.mono _ _ _ _)
   | (with_reducible exact signalbenchref21_search.mono _ _ _ _ _ _ _ _ _ _ _ _ _ _)
   | (with_reducible exact LeO.refl _)
   | (with_reducible exact LeO.none _)
   | (with_reducible refine LeO.ite ?_ ?_)
   | (with_reducible refine LeO.bind ?_ (fun _ => ?_))
   | exact ih0 _ _ _ _ _ _ _ _ _ _ _ _ _ _ _ _ _ _ _
   | exact ih1 _ _ _ _ _ _ _ _ _ _ _ _ _ _ _ _ _ _
   | exact ih2 _ _ _ _ _ _ _ _ _ _ _ _ _ _ _ _ _ _
   | exact ih3 _ _ _ _ _ _ _ _ _ _ _ _ _ _ _ _ _ _ _
   | exact signalbenchref03_Bytes.mono _ _ _
   | exact signalbenchref21_Check.mono _ _ _ _
   | exact signalbenchref21_search.mono _ _ _ _ _ _ _ _ _ _ _ _ _ _
   | exact LeO.none _
   | refine LeO.ite ?_ ?_
   | refine LeO.bind ?_ (fun _ => ?_)
def signalbenchref21_Step.T3 : Bool × List (List Nat × List Nat) := (true, [([], []), ([0], [0]), ([], []), ([2], [2]), ([0, 1], []), ([4, 1, 0, 1], [1, 4]), ([0, 1, 2, 3, 4, 5], []), ([6, 3, 5, 0, 1, 2, 3, 4, 5], [3, 6])])
def signalbenchref21_Step.B3 : List Nat := [0, 1, 0, 4, 3, 19, 63, 127]
theorem signalbenchref21_Step.tab3 : rtab .any (opsOf Try.f12 3) = signalbenchref21_Step.T3 := by kernel_rfl
theorem signalbenchref21_Step.bits3 : waitsOk signalbenchref21_Step.T3.2 signalbenchref21_Step.B3 = true := by kernel_rfl
def signalbenchref21_Step.T5 : Bool × List (List Nat × List Nat) := (true, [([], []), ([0], [0]), ([], []), ([], []), ([3], [3]), ([2, 4, 1], [2, 4]), ([1, 5, 0, 1], [1]), ([5, 6, 0, 1, 2, 3, 4, 5, 6], [5])])
def signalbenchref21_Step.B5 : List Nat := [0, 1, 0, 0, 8, 31, 63, 127]
theorem signalbenchref21_Step.tab5 : rtab .any (opsOf Try.f12 5) = signalbenchref21_Step.T5 := by kernel_rfl
theorem signalbenchref21_Step.bits5 : waitsOk signalbenchref21_Step.T5.2 signalbenchref21_Step.B5 = true := by kernel_rfl
def signalbenchref21_Step.T15 : Bool × List (List Nat × List Nat) := (true, [([], []), ([0], [0]), ([], []), ([2], [2]), ([], []), ([4], [4]), ([], []), ([3, 5, 6], [3, 5, 6]), ([7], [7]), ([1, 1, 0, 1], [1]), ([8, 9, 0, 1, 2, 3, 4, 5, 6, 7, 8, 9], [8])])
def signalbenchref21_Step.B15 : List Nat := [0, 1, 0, 4, 0, 16, 0, 124, 252, 3, 1023]
theorem signalbenchref21_Step.tab15 : rtab .any (opsOf Try.f12 15) = signalbenchref21_Step.T15 := by kernel_rfl
theorem signalbenchref21_Step.bits15 : waitsOk signalbenchref21_Step.T15.2 signalbenchref21_Step.B15 = true := by kernel_rfl
set_option maxHeartbeats 8000000 in
set_option maxRecDepth 100000 in
theorem signalbenchref21_Step.calls (k : Nat) (a0_0 : ByteArray) (a0_1 : Int) (a0_2 : Bool) (a1_0 : Int) (a1_1 : Int) (a1_2 : Int) (a1_3 : Int) (a1_4 : Int) (a1_5 : Int) (a1_6 : Int) (a1_7 : ByteArray) (a2_0 : Int) (a2_1 : Int) (a2_2 : Int) (a2_3 : Int) (a2_4 : Int) (a2_5 : ByteArray) (a2_6 : Int) (r1 : Int) (r2 : Int) (r3 : Int) (r4 : Int) (r5 : Int) (r6 : Int) (r7 : Int) (r8 : ByteArray) (r9 : List (S32)) (w : World) (h : signalbenchref21_Step.f k a0_0 a0_1 a0_2 a1_0 a1_1 a1_2 a1_3 a1_4 a1_5 a1_6 a1_7 a2_0 a2_1 a2_2 a2_3 a2_4 a2_5 a2_6 = some (r1, r2, r3, r4, r5, r6, r7, r8, r9)) :
  Calls Try.prog 12 #[.agg #[.string a0_0, .int .i64 a0_1, .bool a0_2], .agg #[.int .i64 a1_0, .int .i64 a1_1, .int .i64 a1_2, .int .i64 a1_3, .int .i64 a1_4, .int .i64 a1_5, .int .i64 a1_6, .string a1_7], .agg #[.int .i64 a2_0, .int .i64 a2_1, .int .i64 a2_2, .int .i64 a2_3, .int .i64 a2_4, .string a2_5, .int .i64 a2_6]] w fun e w' => ∃ v8_ : Value, e = .returned (.tuple #[.agg #[.int .i64 r1, .int .i64 r2, .int .i64 r3, .int .i64 r4, .int .i64 r5, .int .i64 r6, .int .i64 r7, .string r8], v8_]) ∧ Kd.R k32 32 w' w.heap.size (fun _ => True) v8_ r9 ∧ Below w.heap.size w w' := by
 have hu23 := Try.underlying23; have hu27 := Try.underlying27; have hu32 := Try.underlying32; have HB := sA (Below.refl w.heap.size w); have H : ((signalbenchref21_Check.f k a0_0 a0_1 a0_2).bind fun t341 => (if t341 = 0 then ((signalbenchref21_accepted.f a1_0 a1_1 a1_2 a1_3 a1_4 a1_5 a1_6 a1_7 a2_0 a2_1 a2_2 a2_3 a2_4 a2_5 a2_6).bind fun t342 => (signalbenchref21_Step.j0 k (!t342) a0_0 a0_1 a0_2 a1_0 a1_1 a1_2 a1_3 a1_4 a1_5 a1_6 a1_7 a2_0 a2_1 a2_2 a2_3 a2_4 a2_5 a2_6)) else (signalbenchref21_Step.j0 k true a0_0 a0_1 a0_2 a1_0 a1_1 a1_2 a1_3 a1_4 a1_5 a1_6 a1_7 a2_0 a2_1 a2_2 a2_3 a2_4 a2_5 a2_6))) = some (r1, r2, r3, r4, r5, r6, r7, r8, r9) := h; clear h; have HC4 := sA H; clear H
 go_enter Try.func12, Try.ntmps12
 go_upto_region 1 with (first | ((with_reducible refine gate_dst (N := 3) rfl ?_); refine boxK 3 #[.string a0_0, .int .i64 a0_1, .bool a0_2] 23 ?_; intro gb337 hg w5 hbox hb; have BK337 := sA hbox; have GW337 := bsz HB hg; have GE337 := bsz HB hg; replace HB := bst HB hb; clear hb hbox hg) | ((with_reducible refine gate_dst (N := 4) rfl ?_); refine boxK 4 #[.int .i64 a1_0, .int .i64 a1_1, .int .i64 a1_2, .int .i64 a1_3, .int .i64 a1_4, .int .i64 a1_5, .int .i64 a1_6, .string a1_7] 27 ?_; intro gb338 hg w6 hbox hb; have BK338 := sA hbox; have GW338 := bsz HB hg; have GE338 := bsz HB hg; have NB337_338 := bnl BK337 hg; have NB338_337 := bng BK337 hg; replace BK337 := sA (blkb BK337.out hb); replace HB := bst HB hb; clear hb hbox hg) | ((with_reducible refine gate_dst (N := 5) rfl ?_); refine boxK 5 #[.int .i64 a2_0, .int .i64 a2_1, .int .i64 a2_2, .int .i64 a2_3, .int .i64 a2_4, .string a2_5, .int .i64 a2_6] 32 ?_; intro gb339 hg w7 hbox hb; have BK339 := sA hbox; have GW339 := bsz HB hg; have GE339 := bsz HB hg; have NB337_339 := bnl BK337 hg; have NB339_337 := bng BK337 hg; have NB338_339 := bnl BK338 hg; have NB339_338 := bng BK338 hg; replace BK337 := sA (blkb BK337.out hb); replace BK338 := sA (blkb BK338.out hb); replace HB := bst HB hb; clear hb hbox hg) | ((with_reducible refine gate_dst (N := 6) rfl ?_); refine boxK 6 #[.int .i64 0, .int .i64 0, .int .i64 0, .int .i64 0, .int .i64 0, .int .i64 0, .int .i64 0, .string (⟨#[]⟩ : ByteArray)] 27 ?_; intro gb340 hg w8 hbox hb; have BK340 := sA hbox; have GW340 := bsz HB hg; have GE340 := bsz HB hg; have NB337_340 := bnl BK337 hg; have NB340_337 := bng BK337 hg; have NB338_340 := bnl BK338 hg; have NB340_338 := bng BK338 hg; have NB339_340 := bnl BK339 hg; have NB340_339 := bng BK339 hg; replace BK337 := sA (blkb BK337.out hb); replace BK338 := sA (blkb BK338.out hb); replace BK339 := sA (blkb BK339.out hb); replace HB := bst HB hb; clear hb hbox hg))
 (try simp only [Act.put, List.setIfInBounds_toArray, List.set_cons_zero, List.set_cons_succ])
 go_cut [19] (fun v19 wc => ∃ (kq : Nat) (x19_3 : Bool), v19 = .bool x19_3 ∧ Aside0 (signalbenchref21_Step.j0 kq x19_3 a0_0 a0_1 a0_2 a1_0 a1_1 a1_2 a1_3 a1_4 a1_5 a1_6 a1_7 a2_0 a2_1 a2_2 a2_3 a2_4 a2_5 a2_6 = some (r1, r2, r3, r4, r5, r6, r7, r8, r9)) ∧ Aside0 (kq ≤ k) ∧ Aside0 (wc.heap[gb337]? = some (.cells #[.string a0_0, .int .i64 a0_1, .bool a0_2] 23 (0, 0))) ∧ Aside0 (wc.heap[gb338]? = some (.cells #[.int .i64 a1_0, .int .i64 a1_1, .int .i64 a1_2, .int .i64 a1_3, .int .i64 a1_4, .int .i64 a1_5, .int .i64 a1_6, .string a1_7] 27 (0, 0))) ∧ Aside0 (wc.heap[gb339]? = some (.cells #[.int .i64 a2_0, .int .i64 a2_1, .int .i64 a2_2, .int .i64 a2_3, .int .i64 a2_4, .string a2_5, .int .i64 a2_6] 32 (0, 0))) ∧ Aside0 (wc.heap[gb340]? = some (.cells #[.int .i64 0, .int .i64 0, .int .i64 0, .int .i64 0, .int .i64 0, .int .i64 0, .int .i64 0, .string (⟨#[]⟩ : ByteArray)] 27 (0, 0))) ∧ Aside0 (Below w.heap.size w wc))
 case first =>
  have H := HC4.out; clear HC4; replace H := Option.bind_eq_some_iff.mp H; obtain ⟨t341, A90, H⟩ := H; replace H : (if t341 = 0 then ((signalbenchref21_accepted.f a1_0 a1_1 a1_2 a1_3 a1_4 a1_5 a1_6 a1_7 a2_0 a2_1 a2_2 a2_3 a2_4 a2_5 a2_6).bind fun t342 => (signalbenchref21_Step.j0 k (!t342) a0_0 a0_1 a0_2 a1_0 a1_1 a1_2 a1_3 a1_4 a1_5 a1_6 a1_7 a2_0 a2_1 a2_2 a2_3 a2_4 a2_5 a2_6)) else (signalbenchref21_Step.j0 k true a0_0 a0_1 a0_2 a1_0 a1_1 a1_2 a1_3 a1_4 a1_5 a1_6 a1_7 a2_0 a2_1 a2_2 a2_3 a2_4 a2_5 a2_6)) = some (r1, r2, r3, r4, r5, r6, r7, r8, r9) := H; have A9 := sA A90; clear A90
  by_cases c10 : t341 = 0
  ·rw [if_pos c10] at H
   have c10b0 : (t341 == 0) = true := beq_iff_eq.mpr c10; have c10b1 : (t341 != 0) = false := bne_eq_false_iff_eq.mpr c10; clear c10
   (first | rw [c10b0] | (simp only [i64_w, i32_w]; rw [c10b0]) | skip)
   replace H := Option.bind_eq_some_iff.mp H; obtain ⟨t342, A110, H⟩ := H; replace H : (signalbenchref21_Step.j0 k (!t342) a0_0 a0_1 a0_2 a1_0 a1_1 a1_2 a1_3 a1_4 a1_5 a1_6 a1_7 a2_0 a2_1 a2_2 a2_3 a2_4 a2_5 a2_6) = some (r1, r2, r3, r4, r5, r6, r7, r8, r9) := H; have A11 := sA A110; clear A110; have H' := sA H; clear H; have hnb12 := NB337_338.out; have hnc12 := NB338_337.out; have hnb13 := NB337_339.out; have hnc13 := NB339_337.out; have hnb14 := NB337_340.out; have hnc14 := NB340_337.out; obtain ⟨_,_,_,_,_,_⟩ := cQ3 BK337
   go_wp2_with (first | ((with_reducible refine gate_callee (f := 22) rfl ?_); refine goesK (some 12) Try.func22 #[.agg #[.string a0_0, .int .i64 a0_1, .bool a0_2]] ?_; (with_reducible refine (signalbenchref21_Check.calls k a0_0 a0_1 a0_2 t341 _ A9.out).mono ?_); rintro e w16 ⟨rfl, hb⟩; refine ⟨_, rfl, ?_⟩; replace BK337 := sA (blkb BK337.out hb); replace BK338 := sA (blkb BK338.out hb); replace BK339 := sA (blkb BK339.out hb); replace BK340 := sA (blkb BK340.out hb); replace HB := bst HB hb; (try clear hb); have hnb17 := NB338_339.out; have hnc17 := NB339_338.out; have hnb18 := NB338_340.out; have hnc18 := NB340_338.out; obtain ⟨_,_,_,_,_,_,_,_,_,_,_,_,_,_,_,_⟩ := cQ8 BK338; have hnb20 := NB339_340.out; have hnc20 := NB340_339.out; obtain ⟨_,_,_,_,_,_,_,_,_,_,_,_,_,_⟩ := cQ7 BK339) | (go_at_call 34; (with_reducible refine (signalbenchref21_accepted.calls a1_0 a1_1 a1_2 a1_3 a1_4 a1_5 a1_6 a1_7 a2_0 a2_1 a2_2 a2_3 a2_4 a2_5 a2_6 t342 _ A11.out).mono ?_); rintro e w22 ⟨rfl, hb⟩; replace BK337 := sA (blkb BK337.out hb); replace BK338 := sA (blkb BK338.out hb); replace BK339 := sA (blkb BK339.out hb); replace BK340 := sA (blkb BK340.out hb); replace HB := bst HB hb; (try clear hb)))
   go_meet
   case rel => exact ⟨_, (!t342), (by first | rfl | (simp; done) | (simp [*]; done)), H', ⟨by first | omega | exact Nat.le_refl _⟩, ⟨bkw BK337.out⟩, ⟨bkw BK338.out⟩, ⟨bkw BK339.out⟩, ⟨bkw BK340.out⟩, ⟨hbw HB.out⟩⟩
  ·rw [if_neg c10] at H
   have c10b0 : (t341 == 0) = false := beq_eq_false_iff_ne.mpr c10; have c10b1 : (t341 != 0) = true := bne_iff_ne.mpr c10
   (first | rw [c10b0] | (simp only [i64_w, i32_w]; rw [c10b0]) | skip)
   have H' := sA H; clear H; have hnb23 := NB337_338.out; have hnc23 := NB338_337.out; have hnb24 := NB337_339.out; have hnc24 := NB339_337.out; have hnb25 := NB337_340.out; have hnc25 := NB340_337.out; obtain ⟨_,_,_,_,_,_⟩ := cQ3 BK337
   go_wp2_with (first | ((with_reducible refine gate_callee (f := 22) rfl ?_); refine goesK (some 12) Try.func22 #[.agg #[.string a0_0, .int .i64 a0_1, .bool a0_2]] ?_; (with_reducible refine (signalbenchref21_Check.calls k a0_0 a0_1 a0_2 t341 _ A9.out).mono ?_); rintro e w27 ⟨rfl, hb⟩; refine ⟨_, rfl, ?_⟩; replace BK337 := sA (blkb BK337.out hb); replace BK338 := sA (blkb BK338.out hb); replace BK339 := sA (blkb BK339.out hb); replace BK340 := sA (blkb BK340.out hb); replace HB := bst HB hb; (try clear hb)))
   go_meet
   case rel => exact ⟨_, (true), (by first | rfl | (simp; done) | (simp [*]; done)), H', ⟨by first | omega | exact Nat.le_refl _⟩, ⟨bkw BK337.out⟩, ⟨bkw BK338.out⟩, ⟨bkw BK339.out⟩, ⟨bkw BK340.out⟩, ⟨hbw HB.out⟩⟩
 case rest =>
  clear HC4
  obtain ⟨kq, x19_3, rfl, HA, HJ3, BK337, BK338, BK339, BK340, HB⟩ := hcut
  cases kq with
  | zero => exact absurd HA.out (by simp [signalbenchref21_Step.j0])
  | succ kj3 =>
   have H := HA.out; clear HA
   simp only [signalbenchref21_Step.j0] at H
   have HC28 := sA H; clear H
   go_upto_if 19 with (fail)
   go_cut [] (fun wc => ∃ (kq : Nat) (x341000_27 : Int) (x341001_27 : Int) (x341002_27 : Int) (x341003_27 : Int) (x341004_27 : Int) (x341005_27 : Int) (x341006_27 : Int) (x341007_27 : ByteArray), Aside0 (signalbenchref21_Step.j1 kq a0_0 a0_1 a0_2 a1_0 a1_1 a1_2 a1_3 a1_4 a1_5 a1_6 a1_7 a2_0 a2_1 a2_2 a2_3 a2_4 a2_5 a2_6 = some (r1, r2, r3, r4, r5, r6, r7, r8, r9)) ∧ Aside0 (kq ≤ kj3) ∧ Aside0 (wc.heap[gb337]? = some (.cells #[.string a0_0, .int .i64 a0_1, .bool a0_2] 23 (0, 0))) ∧ Aside0 (wc.heap[gb338]? = some (.cells #[.int .i64 a1_0, .int .i64 a1_1, .int .i64 a1_2, .int .i64 a1_3, .int .i64 a1_4, .int .i64 a1_5, .int .i64 a1_6, .string a1_7] 27 (0, 0))) ∧ Aside0 (wc.heap[gb339]? = some (.cells #[.int .i64 a2_0, .int .i64 a2_1, .int .i64 a2_2, .int .i64 a2_3, .int .i64 a2_4, .string a2_5, .int .i64 a2_6] 32 (0, 0))) ∧ Aside0 (wc.heap[gb340]? = some (.cells #[.int .i64 x341000_27, .int .i64 x341001_27, .int .i64 x341002_27, .int .i64 x341003_27, .int .i64 x341004_27, .int .i64 x341005_27, .int .i64 x341006_27, .string x341007_27] 27 (0, 0))) ∧ Aside0 (Below w.heap.size w wc))
   case first =>
    have H := HC28.out; clear HC28
    by_cases c29 : x19_3 = true
    ·subst c29
     have H1 : (some (a1_0, a1_1, a1_2, a1_3, a1_4, a1_5, a1_6, a1_7, ([] : List (S32)))) = some (r1, r2, r3, r4, r5, r6, r7, r8, r9) := by rw [if_pos rfl] at H; exact H
     clear H; have H := H1; clear H1
     simp only [Option.some.injEq, Prod.mk.injEq] at H
     obtain ⟨rfl, rfl, rfl, rfl, rfl, rfl, rfl, rfl, rfl⟩ := H; have hnb30 := NB338_337.out; have hnc30 := NB337_338.out; have hnb31 := NB338_339.out; have hnc31 := NB339_338.out; have hnb32 := NB338_340.out; have hnc32 := NB340_338.out; obtain ⟨_,_,_,_,_,_,_,_,_,_,_,_,_,_,_,_⟩ := cQ8 BK338; have hnb34 := NB340_337.out; have hnc34 := NB337_340.out; have hnb35 := NB340_339.out; have hnc35 := NB339_340.out; obtain ⟨_,_,_,_,_,_,_,_,_,_,_,_,_,_,_,_⟩ := cQ8 BK340
     go_wp2
     refine bodyPost_ret (results_ct rfl _ _ gb340 27 #[.int .i64 a1_0, .int .i64 a1_1, .int .i64 a1_2, .int .i64 a1_3, .int .i64 a1_4, .int .i64 a1_5, .int .i64 a1_6, .string a1_7] (0, 0) _ rfl (by (with_reducible repeat (first | refine blk_drewN ?_ _ | refine blk_drew ?_ | refine blk_alloc ?_ _)); refine blk_put8 (.int .i64 0) (.int .i64 0) (.int .i64 0) (.int .i64 0) (.int .i64 0) (.int .i64 0) (.int .i64 0) (.string (⟨#[]⟩ : ByteArray)) ?_; (with_reducible repeat (first | refine blk_drewN ?_ _ | refine blk_drew ?_ | refine blk_alloc ?_ _)); exact BK340.out) Try.underlying27 rfl (by kernel_rfl)) rfl ?_
     exact ⟨_, eW_, by first | exact Kd.R_nil _ _ _ _ _ | exact Kd.N_nil _ _ _ _ _ | exact Kd.V_nil _ _ _ _ _ | exact Kd.Q_nil _ _ _ _ _ | exact Kd.S_nil _ _ _ _ _, hbw HB.out⟩
    ·replace c29 := Bool.eq_false_iff.mpr c29
     subst c29
     have H1 : (signalbenchref21_Step.j1 kj3 a0_0 a0_1 a0_2 a1_0 a1_1 a1_2 a1_3 a1_4 a1_5 a1_6 a1_7 a2_0 a2_1 a2_2 a2_3 a2_4 a2_5 a2_6) = some (r1, r2, r3, r4, r5, r6, r7, r8, r9) := by rw [if_neg (show ¬ (false = true) by decide)] at H; exact H
     clear H; have H := H1; clear H1; have H' := sA H; clear H
     go_wp2
     go_meet
     case rel => exact ⟨_, (0), (0), (0), (0), (0), (0), (0), ((⟨#[]⟩ : ByteArray)), H', ⟨by have := HJ3.out; first | omega | exact Nat.le_refl _⟩, ⟨bkw BK337.out⟩, ⟨bkw BK338.out⟩, ⟨bkw BK339.out⟩, ⟨bkw BK340.out⟩, ⟨hbw HB.out⟩⟩
   case rest =>
    clear HC28
    obtain ⟨kq, x341000_27, x341001_27, x341002_27, x341003_27, x341004_27, x341005_27, x341006_27, x341007_27, HA, HJ27, BK337, BK338, BK339, BK340, HB⟩ := hcut
    cases kq with
    | zero => exact absurd HA.out (by simp [signalbenchref21_Step.j1])
    | succ kj27 =>
     have H := HA.out; clear HA
     simp only [signalbenchref21_Step.j1] at H
     have HC37 := sA H; clear H
     try go_wp2
     replace BK337 := sA (blk_drew BK337.out); replace BK338 := sA (blk_drew BK338.out); replace BK339 := sA (blk_drew BK339.out); replace BK340 := sA (blk_drew BK340.out); replace HB := sA (below_drew1 HB.out); refine start_ (n := 8) (S := fun w' => w'.cell? ⟨gb339, 0, none⟩ = some (.int .i64 a2_0) ∧ w'.cell? ⟨gb339, 1, none⟩ = some (.int .i64 a2_1) ∧ w'.cell? ⟨gb339, 2, none⟩ = some (.int .i64 a2_2) ∧ w'.cell? ⟨gb339, 3, none⟩ = some (.int .i64 a2_3) ∧ w'.cell? ⟨gb339, 4, none⟩ = some (.int .i64 a2_4) ∧ w'.cell? ⟨gb339, 5, none⟩ = some (.string a2_5) ∧ w'.cell? ⟨gb339, 6, none⟩ = some (.int .i64 a2_6)) (ds := []) #[N_,N_,N_,N_,N_,N_,N_,N_] (by kernel_rfl) rfl rfl ⟨ck BK339 0, ck BK339 1, ck BK339 2, ck BK339 3, ck BK339 4, ck BK339 5, ck BK339 6⟩ (fun hHeld => ?_); refine with_tabW signalbenchref21_Step.tab3 signalbenchref21_Step.bits3 (fun HT_ HW_ => ?_)
     generalize wc.drew = w38 at BK337 BK338 BK339 BK340 HB hHeld ⊢
     refine pstep 0 (some 21) #[Y_,N_,N_,N_,N_,N_,N_,N_] HT_.out ?_; refine pstep 2 (some 23) #[Y_,N_,Y_,N_,N_,N_,N_,N_] HT_.out ?_; refine take_ (i := 1) (N := some 22) (v := ?_) (a' := ?_) #[Y_,Y_,Y_,N_,N_,N_,N_,N_] rfl rfl (take_ofW HT_.out HW_.out (by kernel_rfl)) (fun _ _ _ h => h) (Or.inl ⟨by rfl, ?_⟩) hHeld ?_ ?_; rotate_left
     ·rintro w' ⟨s0, s1, s2, s3, s4, s5, s6⟩
      go_simp
      with_reducible rfl
     rotate_left
     ·simp only [Act.put, nrm]
      rfl
     refine pstep 4 (some 25) #[Y_,Y_,Y_,N_,Y_,N_,N_,N_] HT_.out ?_; refine take_ (i := 3) (N := some 24) (v := ?_) (a' := ?_) #[Y_,Y_,Y_,Y_,Y_,N_,N_,N_] rfl rfl (take_ofW HT_.out HW_.out (by kernel_rfl)) (fun _ _ _ h => h) (Or.inl ⟨by rfl, ?_⟩) hHeld ?_ ?_; rotate_left
     ·rintro w' ⟨s0, s1, s2, s3, s4, s5, s6⟩
      go_simp
      with_reducible rfl
     rotate_left
     ·simp only [Act.put, nrm]
      rfl
     refine one_ (i := 5) (N := none) #[Y_,Y_,Y_,Y_,Y_,Y_,N_,N_] rfl rfl (one_of HT_.out (by kernel_rfl)) (by decide) (fun K hK => ?_); have hs39 : w38.cell? ⟨gb338, 1, none⟩ = some (.int .i64 a1_1) := ck BK338 1; have hfs39 := blk_frozen BK338.out 1; have := NB337_338.out; have := NB339_338.out; have := NB340_338.out; have := NB338_337.out; have := NB338_339.out; have := NB338_340.out; refine skip_ (w1 := ?_) (by rfl) rfl ?_ ?_; rotate_left
     ·go_simp
      rfl
     refine hK.out _ _ ⟨((cell_far (p := ⟨gb338, _, none⟩) NB339_338.out _).trans (hHeld.1)), ((cell_far (p := ⟨gb338, _, none⟩) NB339_338.out _).trans (hHeld.2.1)), ((cell_far (p := ⟨gb338, _, none⟩) NB339_338.out _).trans (hHeld.2.2.1)), ((cell_far (p := ⟨gb338, _, none⟩) NB339_338.out _).trans (hHeld.2.2.2.1)), ((cell_far (p := ⟨gb338, _, none⟩) NB339_338.out _).trans (hHeld.2.2.2.2.1)), ((cell_far (p := ⟨gb338, _, none⟩) NB339_338.out _).trans (hHeld.2.2.2.2.2.1)), ((cell_far (p := ⟨gb338, _, none⟩) NB339_338.out _).trans (hHeld.2.2.2.2.2.2))⟩ (fun hHeld => ?_); clear hK K; refine pstep 6 (some 26) #[Y_,Y_,Y_,Y_,Y_,Y_,Y_,N_] HT_.out ?_; refine one_ (i := 7) (N := none) #[Y_,Y_,Y_,Y_,Y_,Y_,Y_,Y_] rfl rfl (one_of HT_.out (by kernel_rfl)) (by decide) (fun K hK => ?_); have hs40 : w38.cell? ⟨gb338, 6, none⟩ = some (.int .i64 a1_6) := ck BK338 6; have hfs40 := blk_frozen BK338.out 6; have := NB337_338.out; have := NB339_338.out; have := NB340_338.out; have := NB338_337.out; have := NB338_339.out; have := NB338_340.out; refine skip_ (w1 := ?_) (by rfl) rfl ?_ ?_; rotate_left
     ·go_simp
      rfl
     refine hK.out _ _ ⟨((cell_far (p := ⟨gb338, _, none⟩) NB339_338.out _).trans (hHeld.1)), ((cell_far (p := ⟨gb338, _, none⟩) NB339_338.out _).trans (hHeld.2.1)), ((cell_far (p := ⟨gb338, _, none⟩) NB339_338.out _).trans (hHeld.2.2.1)), ((cell_far (p := ⟨gb338, _, none⟩) NB339_338.out _).trans (hHeld.2.2.2.1)), ((cell_far (p := ⟨gb338, _, none⟩) NB339_338.out _).trans (hHeld.2.2.2.2.1)), ((cell_far (p := ⟨gb338, _, none⟩) NB339_338.out _).trans (hHeld.2.2.2.2.2.1)), ((cell_far (p := ⟨gb338, _, none⟩) NB339_338.out _).trans (hHeld.2.2.2.2.2.2))⟩ (fun hHeld => ?_); clear hK K; refine done_ (done_of HT_.out (by kernel_rfl)) ?_; have hnb41 := NB339_337.out; have hnc41 := NB337_339.out; have hnb42 := NB339_338.out; have hnc42 := NB338_339.out; have hnb43 := NB339_340.out; have hnc43 := NB340_339.out; obtain ⟨hcz44_0,hcz44_1,hcz44_2,hcz44_3,hcz44_4,hcz44_5,hcz44_6,hfz44_0,hfz44_1,hfz44_2,hfz44_3,hfz44_4,hfz44_5,hfz44_6⟩ := cQ7 BK339
     go_upto_if 29 with (fail)
     go_cut [] (fun wc => ∃ (kq : Nat) (x341000_36 : Int) (x341001_36 : Int) (x341002_36 : Int) (x341003_36 : Int) (x341004_36 : Int) (x341005_36 : Int) (x341006_36 : Int) (x341007_36 : ByteArray), Aside0 (signalbenchref21_Step.j2 kq a0_0 a0_1 a0_2 a1_0 a2_2 a1_2 a1_3 a1_4 a1_5 a2_1 a1_7 a2_0 a2_1 a2_2 a2_3 a2_4 a2_5 a2_6 = some (r1, r2, r3, r4, r5, r6, r7, r8, r9)) ∧ Aside0 (kq ≤ kj27) ∧ Aside0 (wc.heap[gb337]? = some (.cells #[.string a0_0, .int .i64 a0_1, .bool a0_2] 23 (0, 0))) ∧ Aside0 (wc.heap[gb338]? = some (.cells #[.int .i64 a1_0, .int .i64 a2_2, .int .i64 a1_2, .int .i64 a1_3, .int .i64 a1_4, .int .i64 a1_5, .int .i64 a2_1, .string a1_7] 27 (0, 0))) ∧ Aside0 (wc.heap[gb339]? = some (.cells #[.int .i64 a2_0, .int .i64 a2_1, .int .i64 a2_2, .int .i64 a2_3, .int .i64 a2_4, .string a2_5, .int .i64 a2_6] 32 (0, 0))) ∧ Aside0 (wc.heap[gb340]? = some (.cells #[.int .i64 x341000_36, .int .i64 x341001_36, .int .i64 x341002_36, .int .i64 x341003_36, .int .i64 x341004_36, .int .i64 x341005_36, .int .i64 x341006_36, .string x341007_36] 27 (0, 0))) ∧ Aside0 (Below w.heap.size w wc))
     case first =>
      have H := HC37.out; clear HC37
      by_cases c45 : a2_6 = 0
      ·rw [if_pos c45] at H
       have c45b0 : (a2_6 == 0) = true := beq_iff_eq.mpr c45; have c45b1 : (a2_6 != 0) = false := bne_eq_false_iff_eq.mpr c45; clear c45
       (first | rw [c45b0] | (simp only [i64_w, i32_w]; rw [c45b0]) | skip)
       have H' := sA H; clear H
       go_wp2
       go_meet
       case rel => exact ⟨_, (x341000_27), (x341001_27), (x341002_27), (x341003_27), (x341004_27), (x341005_27), (x341006_27), (x341007_27), H', ⟨by have := HJ3.out; have := HJ27.out; first | omega | exact Nat.le_refl _⟩, ⟨by (repeat (with_reducible first | refine blk_far ?_ NB337_338.out _ | refine blk_drewN ?_ _ | refine blk_drew ?_ | refine blk_alloc ?_ _)); exact BK337.out⟩, ⟨by (with_reducible repeat (first | refine blk_drewN ?_ _ | refine blk_drew ?_ | refine blk_alloc ?_ _)); refine blk_put (cs := #[.int .i64 a1_0, .int .i64 a2_2, .int .i64 a1_2, .int .i64 a1_3, .int .i64 a1_4, .int .i64 a1_5, .int .i64 a1_6, .string a1_7]) ?_ 6 _ rfl; (with_reducible repeat (first | refine blk_drewN ?_ _ | refine blk_drew ?_ | refine blk_alloc ?_ _)); refine blk_put (cs := #[.int .i64 a1_0, .int .i64 a1_1, .int .i64 a1_2, .int .i64 a1_3, .int .i64 a1_4, .int .i64 a1_5, .int .i64 a1_6, .string a1_7]) ?_ 1 _ rfl; (with_reducible repeat (first | refine blk_drewN ?_ _ | refine blk_drew ?_ | refine blk_alloc ?_ _)); exact BK338.out⟩, ⟨by (repeat (with_reducible first | refine blk_far ?_ NB339_338.out _ | refine blk_drewN ?_ _ | refine blk_drew ?_ | refine blk_alloc ?_ _)); exact BK339.out⟩, ⟨by (repeat (with_reducible first | refine blk_far ?_ NB340_338.out _ | refine blk_drewN ?_ _ | refine blk_drew ?_ | refine blk_alloc ?_ _)); exact BK340.out⟩, ⟨hbw HB.out⟩⟩
      ·rw [if_neg c45] at H
       have c45b0 : (a2_6 == 0) = false := beq_eq_false_iff_ne.mpr c45; have c45b1 : (a2_6 != 0) = true := bne_iff_ne.mpr c45
       (first | rw [c45b0] | (simp only [i64_w, i32_w]; rw [c45b0]) | skip)
       replace H := Option.bind_eq_some_iff.mp H; obtain ⟨⟨t343, t344, t345, t346, t347, t348, t349, t350⟩, A460, H⟩ := H; replace H : ((signalbenchref21_collected.f a1_0 a2_2 a1_2 a1_3 a1_4 a1_5 a2_1 a1_7 a2_1).bind fun t351 => (some (t343, t344, t345, t346, t347, t348, t349, t350, t351))) = some (r1, r2, r3, r4, r5, r6, r7, r8, r9) := H; have A46 := sA A460; clear A460; replace H := Option.bind_eq_some_iff.mp H; obtain ⟨t351, A470, H⟩ := H; replace H : (some (t343, t344, t345, t346, t347, t348, t349, t350, t351)) = some (r1, r2, r3, r4, r5, r6, r7, r8, r9) := H; have A47 := sA A470; clear A470
       simp only [Option.some.injEq, Prod.mk.injEq] at H
       obtain ⟨rfl, rfl, rfl, rfl, rfl, rfl, rfl, rfl, rfl⟩ := H
       try go_wp2
       have n0_ : Aside0 (((w38.setCell ⟨gb338, 1, none⟩ (.int .i64 a2_2)).setCell ⟨gb338, 6, none⟩ (.int .i64 a2_1)).heap[gb337]? = some (.cells #[.string a0_0, .int .i64 a0_1, .bool a0_2] 23 (0, 0))) := ⟨by (repeat (with_reducible first | refine blk_far ?_ NB337_338.out _ | refine blk_drewN ?_ _ | refine blk_drew ?_ | refine blk_alloc ?_ _)); exact BK337.out⟩; have n1_ : Aside0 (((w38.setCell ⟨gb338, 1, none⟩ (.int .i64 a2_2)).setCell ⟨gb338, 6, none⟩ (.int .i64 a2_1)).heap[gb338]? = some (.cells #[.int .i64 a1_0, .int .i64 a2_2, .int .i64 a1_2, .int .i64 a1_3, .int .i64 a1_4, .int .i64 a1_5, .int .i64 a2_1, .string a1_7] 27 (0, 0))) := ⟨by (with_reducible repeat (first | refine blk_drewN ?_ _ | refine blk_drew ?_ | refine blk_alloc ?_ _)); refine blk_put (cs := #[.int .i64 a1_0, .int .i64 a2_2, .int .i64 a1_2, .int .i64 a1_3, .int .i64 a1_4, .int .i64 a1_5, .int .i64 a1_6, .string a1_7]) ?_ 6 _ rfl; (with_reducible repeat (first | refine blk_drewN ?_ _ | refine blk_drew ?_ | refine blk_alloc ?_ _)); refine blk_put (cs := #[.int .i64 a1_0, .int .i64 a1_1, .int .i64 a1_2, .int .i64 a1_3, .int .i64 a1_4, .int .i64 a1_5, .int .i64 a1_6, .string a1_7]) ?_ 1 _ rfl; (with_reducible repeat (first | refine blk_drewN ?_ _ | refine blk_drew ?_ | refine blk_alloc ?_ _)); exact BK338.out⟩; have n2_ : Aside0 (((w38.setCell ⟨gb338, 1, none⟩ (.int .i64 a2_2)).setCell ⟨gb338, 6, none⟩ (.int .i64 a2_1)).heap[gb339]? = some (.cells #[.int .i64 a2_0, .int .i64 a2_1, .int .i64 a2_2, .int .i64 a2_3, .int .i64 a2_4, .string a2_5, .int .i64 a2_6] 32 (0, 0))) := ⟨by (repeat (with_reducible first | refine blk_far ?_ NB339_338.out _ | refine blk_drewN ?_ _ | refine blk_drew ?_ | refine blk_alloc ?_ _)); exact BK339.out⟩; have n3_ : Aside0 (((w38.setCell ⟨gb338, 1, none⟩ (.int .i64 a2_2)).setCell ⟨gb338, 6, none⟩ (.int .i64 a2_1)).heap[gb340]? = some (.cells #[.int .i64 x341000_27, .int .i64 x341001_27, .int .i64 x341002_27, .int .i64 x341003_27, .int .i64 x341004_27, .int .i64 x341005_27, .int .i64 x341006_27, .string x341007_27] 27 (0, 0))) := ⟨by (repeat (with_reducible first | refine blk_far ?_ NB340_338.out _ | refine blk_drewN ?_ _ | refine blk_drew ?_ | refine blk_alloc ?_ _)); exact BK340.out⟩; have n4_ : Aside0 (Below w.heap.size w ((w38.setCell ⟨gb338, 1, none⟩ (.int .i64 a2_2)).setCell ⟨gb338, 6, none⟩ (.int .i64 a2_1))) := ⟨hbw HB.out⟩; (try clear BK337); (try clear BK338); (try clear BK339); (try clear BK340); (try clear HB)
       generalize ((w38.setCell ⟨gb338, 1, none⟩ (.int .i64 a2_2)).setCell ⟨gb338, 6, none⟩ (.int .i64 a2_1)) = w48 at n0_ n1_ n2_ n3_ n4_ ⊢
       have BK337 := n0_; have BK338 := n1_; have BK339 := n2_; have BK340 := n3_; have HB := n4_; clear n0_ n1_ n2_ n3_ n4_; replace BK337 := sA (blk_drew BK337.out); replace BK338 := sA (blk_drew BK338.out); replace BK339 := sA (blk_drew BK339.out); replace BK340 := sA (blk_drew BK340.out); replace HB := sA (below_drew1 HB.out); refine start_ (n := 8) (S := fun w' => w'.cell? ⟨gb338, 0, none⟩ = some (.int .i64 a1_0) ∧ w'.cell? ⟨gb338, 1, none⟩ = some (.int .i64 a2_2) ∧ w'.cell? ⟨gb338, 2, none⟩ = some (.int .i64 a1_2) ∧ w'.cell? ⟨gb338, 3, none⟩ = some (.int .i64 a1_3) ∧ w'.cell? ⟨gb338, 4, none⟩ = some (.int .i64 a1_4) ∧ w'.cell? ⟨gb338, 5, none⟩ = some (.int .i64 a1_5) ∧ w'.cell? ⟨gb338, 6, none⟩ = some (.int .i64 a2_1) ∧ w'.cell? ⟨gb338, 7, none⟩ = some (.string a1_7) ∧ w'.cell? ⟨gb339, 0, none⟩ = some (.int .i64 a2_0) ∧ w'.cell? ⟨gb339, 1, none⟩ = some (.int .i64 a2_1) ∧ w'.cell? ⟨gb339, 2, none⟩ = some (.int .i64 a2_2) ∧ w'.cell? ⟨gb339, 3, none⟩ = some (.int .i64 a2_3) ∧ w'.cell? ⟨gb339, 4, none⟩ = some (.int .i64 a2_4) ∧ w'.cell? ⟨gb339, 5, none⟩ = some (.string a2_5) ∧ w'.cell? ⟨gb339, 6, none⟩ = some (.int .i64 a2_6)) (ds := []) #[N_,N_,N_,N_,N_,N_,N_,N_] (by kernel_rfl) rfl rfl ⟨ck BK338 0, ck BK338 1, ck BK338 2, ck BK338 3, ck BK338 4, ck BK338 5, ck BK338 6, ck BK338 7, ck BK339 0, ck BK339 1, ck BK339 2, ck BK339 3, ck BK339 4, ck BK339 5, ck BK339 6⟩ (fun hHeld => ?_); refine with_tabW signalbenchref21_Step.tab5 signalbenchref21_Step.bits5 (fun HT_ HW_ => ?_)
       generalize w48.drew = w49 at BK337 BK338 BK339 BK340 HB hHeld ⊢
       refine pstep 3 (some 33) #[N_,N_,N_,Y_,N_,N_,N_,N_] HT_.out ?_; refine take_ (i := 0) (N := some 30) (v := ?_) (a' := ?_) #[Y_,N_,N_,Y_,N_,N_,N_,N_] rfl rfl (take_ofW HT_.out HW_.out (by kernel_rfl)) (fun _ _ _ h => h) (Or.inl ⟨by rfl, ?_⟩) hHeld ?_ ?_; rotate_left
       ·rintro w' ⟨s0, s1, s2, s3, s4, s5, s6, s7, s8, s9, s10, s11, s12, s13, s14⟩
        go_simp
        with_reducible rfl
       rotate_left
       ·simp only [Act.put, nrm]
        rfl
       refine take_ (i := 2) (N := some 32) (v := ?_) (a' := ?_) #[Y_,N_,Y_,Y_,N_,N_,N_,N_] rfl rfl (take_ofW HT_.out HW_.out (by kernel_rfl)) (fun _ _ _ h => h) (Or.inl ⟨by rfl, ?_⟩) hHeld ?_ ?_; rotate_left
       ·rintro w' ⟨s0, s1, s2, s3, s4, s5, s6, s7, s8, s9, s10, s11, s12, s13, s14⟩
        go_simp
        with_reducible rfl
       rotate_left
       ·simp only [Act.put, nrm]
        rfl
       refine take_ (i := 4) (N := some 34) (v := ?_) (a' := ?_) #[Y_,N_,Y_,Y_,Y_,N_,N_,N_] rfl rfl (take_ofW HT_.out HW_.out (by kernel_rfl)) (fun _ _ _ h => h) (Or.inl ⟨by rfl, ?_⟩) hHeld ?_ ?_; rotate_left
       ·rintro w' ⟨s0, s1, s2, s3, s4, s5, s6, s7, s8, s9, s10, s11, s12, s13, s14⟩
        go_simp
        with_reducible rfl
       rotate_left
       ·simp only [Act.put, nrm]
        rfl
       refine one_ (i := 1) (N := some 31) #[Y_,Y_,Y_,Y_,Y_,N_,N_,N_] rfl rfl (one_of HT_.out (by kernel_rfl)) (by decide) (fun K hK => ?_); refine goesM Try.func35 #[.agg #[.int .i64 a1_0, .int .i64 a2_2, .int .i64 a1_2, .int .i64 a1_3, .int .i64 a1_4, .int .i64 a1_5, .int .i64 a2_1, .string a1_7]] ?_; (with_reducible refine (signalbenchref21_again.calls a1_0 a2_2 a1_2 a1_3 a1_4 a1_5 a2_1 a1_7 t343 t344 t345 t346 t347 t348 t349 t350 _ A46.out).mono ?_); rintro e w50 ⟨rfl, hb⟩; refine ⟨_, rfl, ?_⟩; replace BK337 := bkB BK337 hb; replace BK338 := bkB BK338 hb; replace BK339 := bkB BK339 hb; replace BK340 := bkB BK340 hb; replace HB := bst HB hb; (try clear hb); refine hK.out _ _ ⟨ck BK338 0, ck BK338 1, ck BK338 2, ck BK338 3, ck BK338 4, ck BK338 5, ck BK338 6, ck BK338 7, ck BK339 0, ck BK339 1, ck BK339 2, ck BK339 3, ck BK339 4, ck BK339 5, ck BK339 6⟩ (fun hHeld => ?_); clear hK K; refine norm_ (a' := ?_) ?_ ?_; rotate_left
       ·show Act.put _ (some 31) _ = _
        simp only [Act.put, nrm]
        rfl
       refine one_ (i := 5) (N := some 35) #[Y_,Y_,Y_,Y_,Y_,Y_,N_,N_] rfl rfl (one_of HT_.out (by kernel_rfl)) (by decide) (fun K hK => ?_); refine goesM Try.func36 #[.agg #[.int .i64 a1_0, .int .i64 a2_2, .int .i64 a1_2, .int .i64 a1_3, .int .i64 a1_4, .int .i64 a1_5, .int .i64 a2_1, .string a1_7], .int .i64 a2_1] ?_; (with_reducible refine (signalbenchref21_collected.calls a1_0 a2_2 a1_2 a1_3 a1_4 a1_5 a2_1 a1_7 a2_1 t351 _ A47.out).mono ?_); rintro e w51 ⟨v352, rfl, ho0, hb⟩; refine ⟨_, rfl, ?_⟩; have HO353 := sA (Kd.R_lower (Kd.R_newB ho0 (g := gb339) (o := .cells #[.int .i64 a2_0, .int .i64 a2_1, .int .i64 a2_2, .int .i64 a2_3, .int .i64 a2_4, .string a2_5, .int .i64 a2_6] 32 (0, 0)) (bkw BK339.out)) (below_size (hbw HB.out))); replace BK337 := bkB BK337 hb; replace BK338 := bkB BK338 hb; replace BK339 := bkB BK339 hb; replace BK340 := bkB BK340 hb; replace HB := bst HB hb; (try clear hb); (try clear ho0); refine hK.out _ _ ⟨ck BK338 0, ck BK338 1, ck BK338 2, ck BK338 3, ck BK338 4, ck BK338 5, ck BK338 6, ck BK338 7, ck BK339 0, ck BK339 1, ck BK339 2, ck BK339 3, ck BK339 4, ck BK339 5, ck BK339 6⟩ (fun hHeld => ?_); clear hK K; refine norm_ (a' := ?_) ?_ ?_; rotate_left
       ·show Act.put _ (some 35) _ = _
        simp only [Act.put, nrm]
        rfl
       refine one_ (i := 6) (N := none) #[Y_,Y_,Y_,Y_,Y_,Y_,Y_,N_] rfl rfl (one_of HT_.out (by kernel_rfl)) (by decide) (fun K hK => ?_); have hs52 : w51.cell? ⟨gb340, 0, none⟩ = some (.int .i64 x341000_27) := ck BK340 0; have hfs52 := blk_frozen BK340.out 0; have := NB337_340.out; have := NB338_340.out; have := NB339_340.out; have := NB340_337.out; have := NB340_338.out; have := NB340_339.out; have hs53 : w51.cell? ⟨gb340, 1, none⟩ = some (.int .i64 x341001_27) := ck BK340 1; have hfs53 := blk_frozen BK340.out 1; have := NB337_340.out; have := NB338_340.out; have := NB339_340.out; have := NB340_337.out; have := NB340_338.out; have := NB340_339.out; have hs54 : w51.cell? ⟨gb340, 2, none⟩ = some (.int .i64 x341002_27) := ck BK340 2; have hfs54 := blk_frozen BK340.out 2; have := NB337_340.out; have := NB338_340.out; have := NB339_340.out; have := NB340_337.out; have := NB340_338.out; have := NB340_339.out; have hs55 : w51.cell? ⟨gb340, 3, none⟩ = some (.int .i64 x341003_27) := ck BK340 3; have hfs55 := blk_frozen BK340.out 3; have := NB337_340.out; have := NB338_340.out; have := NB339_340.out; have := NB340_337.out; have := NB340_338.out; have := NB340_339.out; have hs56 : w51.cell? ⟨gb340, 4, none⟩ = some (.int .i64 x341004_27) := ck BK340 4; have hfs56 := blk_frozen BK340.out 4; have := NB337_340.out; have := NB338_340.out; have := NB339_340.out; have := NB340_337.out; have := NB340_338.out; have := NB340_339.out; have hs57 : w51.cell? ⟨gb340, 5, none⟩ = some (.int .i64 x341005_27) := ck BK340 5; have hfs57 := blk_frozen BK340.out 5; have := NB337_340.out; have := NB338_340.out; have := NB339_340.out; have := NB340_337.out; have := NB340_338.out; have := NB340_339.out; have hs58 : w51.cell? ⟨gb340, 6, none⟩ = some (.int .i64 x341006_27) := ck BK340 6; have hfs58 := blk_frozen BK340.out 6; have := NB337_340.out; have := NB338_340.out; have := NB339_340.out; have := NB340_337.out; have := NB340_338.out; have := NB340_339.out; have hs59 : w51.cell? ⟨gb340, 7, none⟩ = some (.string x341007_27) := ck BK340 7; have hfs59 := blk_frozen BK340.out 7; have := NB337_340.out; have := NB338_340.out; have := NB339_340.out; have := NB340_337.out; have := NB340_338.out; have := NB340_339.out; refine skip_ (w1 := ?_) (by rfl) rfl ?_ ?_; rotate_left
       ·go_simp
        rfl
       refine hK.out _ _ ⟨((far8 (g := gb340) NB338_340.out).trans (hHeld.1)), ((far8 (g := gb340) NB338_340.out).trans (hHeld.2.1)), ((far8 (g := gb340) NB338_340.out).trans (hHeld.2.2.1)), ((far8 (g := gb340) NB338_340.out).trans (hHeld.2.2.2.1)), ((far8 (g := gb340) NB338_340.out).trans (hHeld.2.2.2.2.1)), ((far8 (g := gb340) NB338_340.out).trans (hHeld.2.2.2.2.2.1)), ((far8 (g := gb340) NB338_340.out).trans (hHeld.2.2.2.2.2.2.1)), ((far8 (g := gb340) NB338_340.out).trans (hHeld.2.2.2.2.2.2.2.1)), ((far8 (g := gb340) NB339_340.out).trans (hHeld.2.2.2.2.2.2.2.2.1)), ((far8 (g := gb340) NB339_340.out).trans (hHeld.2.2.2.2.2.2.2.2.2.1)), ((far8 (g := gb340) NB339_340.out).trans (hHeld.2.2.2.2.2.2.2.2.2.2.1)), ((far8 (g := gb340) NB339_340.out).trans (hHeld.2.2.2.2.2.2.2.2.2.2.2.1)), ((far8 (g := gb340) NB339_340.out).trans (hHeld.2.2.2.2.2.2.2.2.2.2.2.2.1)), ((far8 (g := gb340) NB339_340.out).trans (hHeld.2.2.2.2.2.2.2.2.2.2.2.2.2.1)), ((far8 (g := gb340) NB339_340.out).trans (hHeld.2.2.2.2.2.2.2.2.2.2.2.2.2.2))⟩ (fun hHeld => ?_); clear hK K; refine pstep 7 (some 7) #[Y_,Y_,Y_,Y_,Y_,Y_,Y_,Y_] HT_.out ?_; refine done_ (done_of HT_.out (by kernel_rfl)) ?_
       try go_wp2
       refine bodyPost_ret (results_ct rfl _ _ gb340 27 #[.int .i64 t343, .int .i64 t344, .int .i64 t345, .int .i64 t346, .int .i64 t347, .int .i64 t348, .int .i64 t349, .string t350] (0, 0) _ rfl (by (with_reducible repeat (first | refine blk_drewN ?_ _ | refine blk_drew ?_ | refine blk_alloc ?_ _)); refine blk_put8 (.int .i64 x341000_27) (.int .i64 x341001_27) (.int .i64 x341002_27) (.int .i64 x341003_27) (.int .i64 x341004_27) (.int .i64 x341005_27) (.int .i64 x341006_27) (.string x341007_27) ?_; (with_reducible repeat (first | refine blk_drewN ?_ _ | refine blk_drew ?_ | refine blk_alloc ?_ _)); exact BK340.out) Try.underlying27 rfl (by kernel_rfl)) rfl ?_
       exact ⟨_, eW_, by (with_reducible repeat (first | apply Kd.R_alloc | apply Kd.R_drewN | apply Kd.R_drew)); exact Kd.R_mono (Kd.R_far (p := ⟨gb340, 7, none⟩) (Kd.R_far (p := ⟨gb340, 6, none⟩) (Kd.R_far (p := ⟨gb340, 5, none⟩) (Kd.R_far (p := ⟨gb340, 4, none⟩) (Kd.R_far (p := ⟨gb340, 3, none⟩) (Kd.R_far (p := ⟨gb340, 2, none⟩) (Kd.R_far (p := ⟨gb340, 1, none⟩) (Kd.R_far (p := ⟨gb340, 0, none⟩) (Kd.R_types HO353.out BK340.out (by decide)) (fun _ hk => hk.2) (.int .i64 t343)) (fun _ hk => hk.2) (.int .i64 t344)) (fun _ hk => hk.2) (.int .i64 t345)) (fun _ hk => hk.2) (.int .i64 t346)) (fun _ hk => hk.2) (.int .i64 t347)) (fun _ hk => hk.2) (.int .i64 t348)) (fun _ hk => hk.2) (.int .i64 t349)) (fun _ hk => hk.2) (.string t350)) (fun _ hk => trivial), hbw HB.out⟩
     case rest =>
      clear HC37
      try clear hcz44_0
      try clear hcz44_1
      try clear hcz44_2
      try clear hcz44_3
      try clear hcz44_4
      try clear hcz44_5
      try clear hcz44_6
      try clear hfz44_0
      try clear hfz44_1
      try clear hfz44_2
      try clear hfz44_3
      try clear hfz44_4
      try clear hfz44_5
      try clear hfz44_6
      obtain ⟨kq, x341000_36, x341001_36, x341002_36, x341003_36, x341004_36, x341005_36, x341006_36, x341007_36, HA, HJ36, BK337, BK338, BK339, BK340, HB⟩ := hcut
      cases kq with
      | zero => exact absurd HA.out (by simp [signalbenchref21_Step.j2])
      | succ kj36 =>
       have H := HA.out; clear HA
       simp only [signalbenchref21_Step.j2] at H
       have HC60 := sA H; clear H; have hnb61 := NB339_337.out; have hnc61 := NB337_339.out; have hnb62 := NB339_338.out; have hnc62 := NB338_339.out; have hnb63 := NB339_340.out; have hnc63 := NB340_339.out; obtain ⟨hcz64_0,hcz64_1,hcz64_2,hcz64_3,hcz64_4,hcz64_5,hcz64_6,hfz64_0,hfz64_1,hfz64_2,hfz64_3,hfz64_4,hfz64_5,hfz64_6⟩ := cQ7 BK339
       go_upto_if 38 with (fail)
       go_cut [8] (fun v8 wc => ∃ (kq : Nat) (x8_59 : ByteArray), v8 = .string x8_59 ∧ Aside0 (signalbenchref21_Step.j3 kq x8_59 a0_0 a0_1 a0_2 a1_0 a2_2 a1_2 a1_3 a1_4 a1_5 a2_1 a1_7 a2_0 a2_1 a2_2 a2_3 a2_4 a2_5 a2_6 = some (r1, r2, r3, r4, r5, r6, r7, r8, r9)) ∧ Aside0 (kq ≤ kj36) ∧ Aside0 (wc.heap[gb337]? = some (.cells #[.string a0_0, .int .i64 a0_1, .bool a0_2] 23 (0, 0))) ∧ Aside0 (wc.heap[gb338]? = some (.cells #[.int .i64 a1_0, .int .i64 a2_2, .int .i64 a1_2, .int .i64 a1_3, .int .i64 a1_4, .int .i64 a1_5, .int .i64 a2_1, .string a1_7] 27 (0, 0))) ∧ Aside0 (wc.heap[gb339]? = some (.cells #[.int .i64 a2_0, .int .i64 a2_1, .int .i64 a2_2, .int .i64 a2_3, .int .i64 a2_4, .string a2_5, .int .i64 a2_6] 32 (0, 0))) ∧ Aside0 (wc.heap[gb340]? = some (.cells #[.int .i64 x341000_36, .int .i64 x341001_36, .int .i64 x341002_36, .int .i64 x341003_36, .int .i64 x341004_36, .int .i64 x341005_36, .int .i64 x341006_36, .string x341007_36] 27 (0, 0))) ∧ Aside0 (Below w.heap.size w wc))
       case first =>
        have H := HC60.out; clear HC60
        by_cases c65 : a2_3 = 1
        ·rw [if_pos c65] at H
         have c65b0 : (a2_3 == 1) = true := beq_iff_eq.mpr c65; have c65b1 : (a2_3 != 1) = false := bne_eq_false_iff_eq.mpr c65; clear c65
         (first | rw [c65b0] | (simp only [i64_w, i32_w]; rw [c65b0]) | skip)
         have H' := sA H; clear H
         go_wp2
         go_meet
         case rel => exact ⟨_, ((⟨#[49]⟩ : ByteArray)), (by first | rfl | (simp; done) | (simp [*]; done)), H', ⟨by have := HJ3.out; have := HJ27.out; have := HJ36.out; first | omega | exact Nat.le_refl _⟩, ⟨bkw BK337.out⟩, ⟨bkw BK338.out⟩, ⟨bkw BK339.out⟩, ⟨bkw BK340.out⟩, ⟨hbw HB.out⟩⟩
        ·rw [if_neg c65] at H
         have c65b0 : (a2_3 == 1) = false := beq_eq_false_iff_ne.mpr c65; have c65b1 : (a2_3 != 1) = true := bne_iff_ne.mpr c65
         (first | rw [c65b0] | (simp only [i64_w, i32_w]; rw [c65b0]) | skip)
         have H' := sA H; clear H
         go_wp2
         go_meet
         case rel => exact ⟨_, ((⟨#[48]⟩ : ByteArray)), (by first | rfl | (simp; done) | (simp [*]; done)), H', ⟨by have := HJ3.out; have := HJ27.out; have := HJ36.out; first | omega | exact Nat.le_refl _⟩, ⟨bkw BK337.out⟩, ⟨bkw BK338.out⟩, ⟨bkw BK339.out⟩, ⟨bkw BK340.out⟩, ⟨hbw HB.out⟩⟩
       case rest =>
        clear HC60
        try clear hcz44_0
        try clear hcz44_1
        try clear hcz44_2
        try clear hcz44_3
        try clear hcz44_4
        try clear hcz44_5
        try clear hcz44_6
        try clear hcz64_0
        try clear hcz64_1
        try clear hcz64_2
        try clear hcz64_3
        try clear hcz64_4
        try clear hcz64_5
        try clear hcz64_6
        try clear hfz44_0
        try clear hfz44_1
        try clear hfz44_2
        try clear hfz44_3
        try clear hfz44_4
        try clear hfz44_5
        try clear hfz44_6
        try clear hfz64_0
        try clear hfz64_1
        try clear hfz64_2
        try clear hfz64_3
        try clear hfz64_4
        try clear hfz64_5
        try clear hfz64_6
        obtain ⟨kq, x8_59, rfl, HA, HJ59, BK337, BK338, BK339, BK340, HB⟩ := hcut
        cases kq with
        | zero => exact absurd HA.out (by simp [signalbenchref21_Step.j3])
        | succ kj59 =>
         have H := HA.out; clear HA
         simp only [signalbenchref21_Step.j3] at H
         by_cases c66 : a1_0 = 0
         ·rw [if_pos c66] at H
          have c66b0 : (a1_0 == 0) = true := beq_iff_eq.mpr c66; have c66b1 : (a1_0 != 0) = false := bne_eq_false_iff_eq.mpr c66; clear c66; replace H := Option.bind_eq_some_iff.mp H; obtain ⟨⟨t354, t355, t356, t357, t358, t359, t360, t361⟩, A670, H⟩ := H; replace H : (some (t354, t355, t356, t357, t358, t359, t360, t361, ([] : List (S32)))) = some (r1, r2, r3, r4, r5, r6, r7, r8, r9) := H; have A67 := sA A670; clear A670
          simp only [Option.some.injEq, Prod.mk.injEq] at H
          obtain ⟨rfl, rfl, rfl, rfl, rfl, rfl, rfl, rfl, rfl⟩ := H; have hnb68 := NB338_337.out; have hnc68 := NB337_338.out; have hnb69 := NB338_339.out; have hnc69 := NB339_338.out; have hnb70 := NB338_340.out; have hnc70 := NB340_338.out; obtain ⟨_,_,_,_,_,_,_,_,_,_,_,_,_,_,_,_⟩ := cQ8 BK338; have hnb72 := NB337_339.out; have hnc72 := NB339_337.out; have hnb73 := NB337_340.out; have hnc73 := NB340_337.out; obtain ⟨_,_,_,_,_,_⟩ := cQ3 BK337; have hnb75 := NB339_340.out; have hnc75 := NB340_339.out; obtain ⟨_,_,_,_,_,_,_,_,_,_,_,_,_,_⟩ := cQ7 BK339
          go_wp2_with (first | ((with_reducible refine gate_callee (f := 37) rfl ?_); refine goesK (some 47) Try.func37 #[.agg #[.string a0_0, .int .i64 a0_1, .bool a0_2], .agg #[.int .i64 a1_0, .int .i64 a2_2, .int .i64 a1_2, .int .i64 a1_3, .int .i64 a1_4, .int .i64 a1_5, .int .i64 a2_1, .string a1_7], .string x8_59, .int .i64 a2_1] ?_; (with_reducible refine (signalbenchref21_search.calls kj59 a0_0 a0_1 a0_2 a1_0 a2_2 a1_2 a1_3 a1_4 a1_5 a2_1 a1_7 x8_59 a2_1 t354 t355 t356 t357 t358 t359 t360 t361 _ A67.out).mono ?_); rintro e w77 ⟨rfl, hb⟩; refine ⟨_, rfl, ?_⟩; replace BK337 := sA (blkb BK337.out hb); replace BK338 := sA (blkb BK338.out hb); replace BK339 := sA (blkb BK339.out hb); replace BK340 := sA (blkb BK340.out hb); replace HB := bst HB hb; (try clear hb); obtain ⟨_,_,_,_,_,_,_,_,_,_,_,_,_,_,_,_⟩ := cQ8 BK340))
          refine bodyPost_ret (results_ct rfl _ _ gb340 27 #[.int .i64 t354, .int .i64 t355, .int .i64 t356, .int .i64 t357, .int .i64 t358, .int .i64 t359, .int .i64 t360, .string t361] (0, 0) _ rfl (by (with_reducible repeat (first | refine blk_drewN ?_ _ | refine blk_drew ?_ | refine blk_alloc ?_ _)); refine blk_put8 (.int .i64 x341000_36) (.int .i64 x341001_36) (.int .i64 x341002_36) (.int .i64 x341003_36) (.int .i64 x341004_36) (.int .i64 x341005_36) (.int .i64 x341006_36) (.string x341007_36) ?_; (with_reducible repeat (first | refine blk_drewN ?_ _ | refine blk_drew ?_ | refine blk_alloc ?_ _)); exact BK340.out) Try.underlying27 rfl (by kernel_rfl)) rfl ?_
          exact ⟨_, eW_, by first | exact Kd.R_nil _ _ _ _ _ | exact Kd.N_nil _ _ _ _ _ | exact Kd.V_nil _ _ _ _ _ | exact Kd.Q_nil _ _ _ _ _ | exact Kd.S_nil _ _ _ _ _, hbw HB.out⟩
         ·rw [if_neg c66] at H
          have c66b0 : (a1_0 == 0) = false := beq_eq_false_iff_ne.mpr c66; have c66b1 : (a1_0 != 0) = true := bne_iff_ne.mpr c66
          by_cases c79 : a1_7.size + x8_59.size ≤ 9223372036854775807
          ·rw [if_pos c79] at H
           have c79b0 := eq_true c79; have c79b1 : decide (a1_7.size + x8_59.size ≤ 9223372036854775807) = true := decide_eq_true c79
           try have c79b2 : (9223372036854775807 < a1_7.size + x8_59.size) = False := eq_false (Nat.not_lt.2 c79)
           by_cases c80 : ((a1_7 ++ x8_59).size : Int) < (wrap64 (8 * a0_1))
           ·rw [if_pos c80] at H
            have c80b0 : decide (((a1_7 ++ x8_59).size : Int) < (wrap64 (8 * a0_1))) = true := decide_eq_true c80; (try (have c80z0 := c80b0; simp only [ByteArray.size_append, Int.natCast_add] at c80z0)); clear c80
            simp only [Option.some.injEq, Prod.mk.injEq] at H
            obtain ⟨rfl, rfl, rfl, rfl, rfl, rfl, rfl, rfl, rfl⟩ := H; have hnb81 := NB338_337.out; have hnc81 := NB337_338.out; have hnb82 := NB338_339.out; have hnc82 := NB339_338.out; have hnb83 := NB338_340.out; have hnc83 := NB340_338.out; obtain ⟨_,_,_,_,_,_,_,_,_,_,_,_,_,_,_,_⟩ := cQ8 BK338; have hnb85 := NB337_339.out; have hnc85 := NB339_337.out; have hnb86 := NB337_340.out; have hnc86 := NB340_337.out; obtain ⟨_,_,_,_,_,_⟩ := cQ3 BK337; have hnb88 := NB340_339.out; have hnc88 := NB339_340.out; obtain ⟨_,_,_,_,_,_,_,_,_,_,_,_,_,_,_,_⟩ := cQ8 BK340
            go_wp2
            refine bodyPost_ret (results_ct rfl _ _ gb340 27 #[.int .i64 a1_0, .int .i64 a2_2, .int .i64 a1_2, .int .i64 a1_3, .int .i64 a1_4, .int .i64 a1_5, .int .i64 a2_1, .string (a1_7 ++ x8_59)] (0, 0) _ rfl (by (with_reducible repeat (first | refine blk_drewN ?_ _ | refine blk_drew ?_ | refine blk_alloc ?_ _)); refine blk_put8 (.int .i64 x341000_36) (.int .i64 x341001_36) (.int .i64 x341002_36) (.int .i64 x341003_36) (.int .i64 x341004_36) (.int .i64 x341005_36) (.int .i64 x341006_36) (.string x341007_36) ?_; (with_reducible repeat (first | refine blk_drewN ?_ _ | refine blk_drew ?_ | refine blk_alloc ?_ _)); refine blk_far ?_ NB340_338.out _; (with_reducible repeat (first | refine blk_drewN ?_ _ | refine blk_drew ?_ | refine blk_alloc ?_ _)); exact BK340.out) Try.underlying27 rfl (by kernel_rfl)) rfl ?_
            exact ⟨_, eW_, by first | exact Kd.R_nil _ _ _ _ _ | exact Kd.N_nil _ _ _ _ _ | exact Kd.V_nil _ _ _ _ _ | exact Kd.Q_nil _ _ _ _ _ | exact Kd.S_nil _ _ _ _ _, hbw HB.out⟩
           ·rw [if_neg c80] at H
            have c80b0 : decide (((a1_7 ++ x8_59).size : Int) < (wrap64 (8 * a0_1))) = false := decide_eq_false c80; (try (have c80z0 := c80b0; simp only [ByteArray.size_append, Int.natCast_add] at c80z0)); clear c80; replace H := Option.bind_eq_some_iff.mp H; obtain ⟨⟨t362, t363⟩, A900, H⟩ := H; replace H : ((signalbenchref21_again.f a1_0 a2_2 a1_2 a1_3 a1_4 a1_5 a2_1 (a1_7 ++ x8_59)).bind fun bt364 => (some (bt364.1, bt364.2.1, bt364.2.2.1, bt364.2.2.2.1, bt364.2.2.2.2.1, bt364.2.2.2.2.2.1, bt364.2.2.2.2.2.2.1, bt364.2.2.2.2.2.2.2, (([(⟨5, a1_2, a2_2, 0, 0, t362, 0⟩ : S32)] : List (S32)))))) = some (r1, r2, r3, r4, r5, r6, r7, r8, r9) := H; have A90 := sA A900; clear A900; replace H := Option.bind_eq_some_iff.mp H; obtain ⟨⟨t364, t365, t366, t367, t368, t369, t370, t371⟩, A910, H⟩ := H; replace H : (some (t364, t365, t366, t367, t368, t369, t370, t371, (([(⟨5, a1_2, a2_2, 0, 0, t362, 0⟩ : S32)] : List (S32))))) = some (r1, r2, r3, r4, r5, r6, r7, r8, r9) := H; have A91 := sA A910; clear A910; obtain ⟨y372, hy372⟩ : ∃ y_ : List (S32), y_ = (([(⟨5, a1_2, a2_2, 0, 0, t362, 0⟩ : S32)] : List (S32))) := ⟨_, rfl⟩
            replace H : (some (t364, t365, t366, t367, t368, t369, t370, t371, y372)) = some (r1, r2, r3, r4, r5, r6, r7, r8, r9) := by first | (rw [hy372]; with_reducible exact H) | (have H2_ := (Option.bind_some _ _).symm.trans H; rw [hy372]; with_reducible exact H2_) | (have H2_ := (Option.bind_some _ _).symm.trans H; with_reducible exact H2_) | with_reducible exact H | (rw [hy372]; exact H) | exact H
            have Ny372 := sA hy372; clear hy372
            simp only [Option.some.injEq, Prod.mk.injEq] at H
            obtain ⟨rfl, rfl, rfl, rfl, rfl, rfl, rfl, rfl, rfl⟩ := H; have hnb92 := NB338_337.out; have hnc92 := NB337_338.out; have hnb93 := NB338_339.out; have hnc93 := NB339_338.out; have hnb94 := NB338_340.out; have hnc94 := NB340_338.out; obtain ⟨_,_,_,_,_,_,_,_,_,_,_,_,_,_,_,_⟩ := cQ8 BK338; have hnb96 := NB337_339.out; have hnc96 := NB339_337.out; have hnb97 := NB337_340.out; have hnc97 := NB340_337.out; obtain ⟨_,_,_,_,_,_⟩ := cQ3 BK337
            try go_wp2_with (first | ((with_reducible refine gate_callee (f := 38) rfl ?_); refine goesK (some 66) Try.func38 #[.string (a1_7 ++ x8_59), .bool a0_2] ?_; (with_reducible refine (signalbenchref03_Bytes.calls kj59 (a1_7 ++ x8_59) a0_2 t362 t363 _ A90.out).mono ?_); rintro e w99 ⟨rfl, hb⟩; refine ⟨_, rfl, ?_⟩; replace BK337 := sA (blk_below (g := gb337) (o := .cells #[.string a0_0, .int .i64 a0_1, .bool a0_2] 23 (0, 0)) (by (with_reducible repeat (first | refine blk_drewN ?_ _ | refine blk_drew ?_ | refine blk_alloc ?_ _)); refine blk_far ?_ NB337_338.out _; (with_reducible repeat (first | refine blk_drewN ?_ _ | refine blk_drew ?_ | refine blk_alloc ?_ _)); exact BK337.out) hb); replace BK338 := sA (blk_below (g := gb338) (o := .cells #[.int .i64 a1_0, .int .i64 a2_2, .int .i64 a1_2, .int .i64 a1_3, .int .i64 a1_4, .int .i64 a1_5, .int .i64 a2_1, .string (a1_7 ++ x8_59)] 27 (0, 0)) (by (with_reducible repeat (first | refine blk_drewN ?_ _ | refine blk_drew ?_ | refine blk_alloc ?_ _)); refine blk_put (cs := #[.int .i64 a1_0, .int .i64 a2_2, .int .i64 a1_2, .int .i64 a1_3, .int .i64 a1_4, .int .i64 a1_5, .int .i64 a2_1, .string a1_7]) ?_ 7 _ rfl; (with_reducible repeat (first | refine blk_drewN ?_ _ | refine blk_drew ?_ | refine blk_alloc ?_ _)); exact BK338.out) hb); replace BK339 := sA (blk_below (g := gb339) (o := .cells #[.int .i64 a2_0, .int .i64 a2_1, .int .i64 a2_2, .int .i64 a2_3, .int .i64 a2_4, .string a2_5, .int .i64 a2_6] 32 (0, 0)) (by (with_reducible repeat (first | refine blk_drewN ?_ _ | refine blk_drew ?_ | refine blk_alloc ?_ _)); refine blk_far ?_ NB339_338.out _; (with_reducible repeat (first | refine blk_drewN ?_ _ | refine blk_drew ?_ | refine blk_alloc ?_ _)); exact BK339.out) hb); replace BK340 := sA (blk_below (g := gb340) (o := .cells #[.int .i64 x341000_36, .int .i64 x341001_36, .int .i64 x341002_36, .int .i64 x341003_36, .int .i64 x341004_36, .int .i64 x341005_36, .int .i64 x341006_36, .string x341007_36] 27 (0, 0)) (by (with_reducible repeat (first | refine blk_drewN ?_ _ | refine blk_drew ?_ | refine blk_alloc ?_ _)); refine blk_far ?_ NB340_338.out _; (with_reducible repeat (first | refine blk_drewN ?_ _ | refine blk_drew ?_ | refine blk_alloc ?_ _)); exact BK340.out) hb); replace HB := bst HB hb; (try clear hb)))
            replace BK337 := sA (blk_drew BK337.out); replace BK338 := sA (blk_drew BK338.out); replace BK339 := sA (blk_drew BK339.out); replace BK340 := sA (blk_drew BK340.out); replace HB := sA (below_drew1 HB.out); refine start_ (n := 11) (S := fun w' => True) (ds := []) #[N_,N_,N_,N_,N_,N_,N_,N_,N_,N_,N_] (by kernel_rfl) rfl rfl trivial (fun hHeld => ?_); refine with_tabW signalbenchref21_Step.tab15 signalbenchref21_Step.bits15 (fun HT_ HW_ => ?_)
            generalize w99.drew = w100 at BK337 BK338 BK339 BK340 HB hHeld ⊢
            refine pstep 2 (some 71) #[N_,N_,Y_,N_,N_,N_,N_,N_,N_,N_,N_] HT_.out ?_; refine pstep 4 (some 73) #[N_,N_,Y_,N_,Y_,N_,N_,N_,N_,N_,N_] HT_.out ?_; refine pstep 6 (some 75) #[N_,N_,Y_,N_,Y_,N_,Y_,N_,N_,N_,N_] HT_.out ?_; refine inv_at [0, 1, 3, 5, 7, 8, 9, 10] (fun a0_ b a w' => ∃ (v373 : Value) (m10_ : Value), a = putSel a0_ b [(0, 69, .agg #[.int .i64 a1_0, .int .i64 a2_2, .int .i64 a1_2, .int .i64 a1_3, .int .i64 a1_4, .int .i64 a1_5, .int .i64 a2_1, .string (a1_7 ++ x8_59)]), (1, 70, .agg #[.int .i64 t364, .int .i64 t365, .int .i64 t366, .int .i64 t367, .int .i64 t368, .int .i64 t369, .int .i64 t370, .string t371]), (3, 72, .int .i64 a1_2), (5, 74, .int .i64 a2_2), (7, 76, .agg #[.int .i64 5, .int .i64 a1_2, .int .i64 a2_2, .int .i64 0, .int .i64 0, .string t362, .int .i64 0]), (8, 77, v373), (10, 7, m10_)] ∧ (w'.heap[gb337]? = some (.cells #[.string a0_0, .int .i64 a0_1, .bool a0_2] 23 (0, 0))) ∧ (w'.heap[gb338]? = some (.cells #[.int .i64 a1_0, .int .i64 a2_2, .int .i64 a1_2, .int .i64 a1_3, .int .i64 a1_4, .int .i64 a1_5, .int .i64 a2_1, .string (a1_7 ++ x8_59)] 27 (0, 0))) ∧ (w'.heap[gb339]? = some (.cells #[.int .i64 a2_0, .int .i64 a2_1, .int .i64 a2_2, .int .i64 a2_3, .int .i64 a2_4, .string a2_5, .int .i64 a2_6] 32 (0, 0))) ∧ (b 9 = false → w'.heap[gb340]? = some (.cells #[.int .i64 x341000_36, .int .i64 x341001_36, .int .i64 x341002_36, .int .i64 x341003_36, .int .i64 x341004_36, .int .i64 x341005_36, .int .i64 x341006_36, .string x341007_36] 27 (0, 0))) ∧ (Below w.heap.size w w') ∧ (b 8 = true → Kd.R k32 32 w' w.heap.size (fun k_ => k_ ≠ gb339) v373 y372) ∧ (b 9 = true → w'.heap[gb340]? = some (.cells #[.int .i64 t364, .int .i64 t365, .int .i64 t366, .int .i64 t367, .int .i64 t368, .int .i64 t369, .int .i64 t370, .string t371] 27 (0, 0))) ∧ (b 10 = true → (m10_ : Value) = v373)) HT_.out HW_.out (by kernel_rfl) (by kernel_rfl) ?_ ?_ ?_
            ·exact ⟨.bool false, .bool false, by simp only [putSel, Bool.false_eq_true, if_false], BK337.out, BK338.out, BK339.out, fun _ => BK340.out, HB.out, fun h_ => absurd h_ (by decide), fun h_ => absurd h_ (by decide), fun h_ => absurd h_ (by decide)⟩
            ·skip
             clear BK337 BK338 BK339 BK340 HB; refine steps_cons ?_ ?_
             ·rintro b a w' ⟨v373, m10_, ha, Q_BK337, Q_BK338, Q_BK339, Q_BK340, Q_HB, Q_HO374, Q_BK340_e9, Q_X10_⟩ hb_ hon hoff
              refine ⟨_, rfl, fun K hK => ?_⟩
              have e4 : a.tmps[4]? = some (.pointer (some ⟨gb338, 0, none⟩)) := by rw [ha]; exact (putSel_off rfl).trans rfl
              replace ha := sA ha; have BK337 := sA Q_BK337; have BK338 := sA Q_BK338; have BK339 := sA Q_BK339; have BK340 := sA (Q_BK340 (hoff 9 (by kernel_rfl))); have HB := sA Q_HB; have hc0_ : w'.cell? ⟨gb338, 0, none⟩ = some (.int .i64 a1_0) := ck BK338 0; have hc1_ : w'.cell? ⟨gb338, 1, none⟩ = some (.int .i64 a2_2) := ck BK338 1; have hc2_ : w'.cell? ⟨gb338, 2, none⟩ = some (.int .i64 a1_2) := ck BK338 2; have hc3_ : w'.cell? ⟨gb338, 3, none⟩ = some (.int .i64 a1_3) := ck BK338 3; have hc4_ : w'.cell? ⟨gb338, 4, none⟩ = some (.int .i64 a1_4) := ck BK338 4; have hc5_ : w'.cell? ⟨gb338, 5, none⟩ = some (.int .i64 a1_5) := ck BK338 5; have hc6_ : w'.cell? ⟨gb338, 6, none⟩ = some (.int .i64 a2_1) := ck BK338 6; have hc7_ : w'.cell? ⟨gb338, 7, none⟩ = some (.string (a1_7 ++ x8_59)) := ck BK338 7; refine value_ (w1 := w') (v := .agg #[.int .i64 a1_0, .int .i64 a2_2, .int .i64 a1_2, .int .i64 a1_3, .int .i64 a1_4, .int .i64 a1_5, .int .i64 a2_1, .string (a1_7 ++ x8_59)]) (by rfl) rfl ?_ ?_
              ·go_simp
               (try simp only [i64_w, u8_w, u32_w, w64_m8, w64_m32])
               try rfl
              refine hK.out _ _ ⟨v373, m10_, (by rw [ha.out]; exact putSel_upk 0 hb_ rfl rfl rfl), Q_BK337, Q_BK338, Q_BK339, Q_BK340, Q_HB, Q_HO374, fun h0_ => absurd ((hoff 9 (by kernel_rfl)).symm.trans h0_) (by decide), fun h0_ => absurd ((hoff 10 (by kernel_rfl)).symm.trans h0_) (by decide)⟩
             refine steps_cons ?_ ?_
             ·rintro b a w' ⟨v373, m10_, ha, Q_BK337, Q_BK338, Q_BK339, Q_BK340, Q_HB, Q_HO374, Q_BK340_e9, Q_X10_⟩ hb_ hon hoff
              refine ⟨_, rfl, fun K hK => ?_⟩
              have e69 : a.tmps[69]? = some (.agg #[.int .i64 a1_0, .int .i64 a2_2, .int .i64 a1_2, .int .i64 a1_3, .int .i64 a1_4, .int .i64 a1_5, .int .i64 a2_1, .string (a1_7 ++ x8_59)]) := by rw [ha]; exact putSel_on (e := (0, 69, .agg #[.int .i64 a1_0, .int .i64 a2_2, .int .i64 a1_2, .int .i64 a1_3, .int .i64 a1_4, .int .i64 a1_5, .int .i64 a2_1, .string (a1_7 ++ x8_59)])) 0 rfl rfl (hon 0 (by kernel_rfl)) rfl
              replace ha := sA ha; have BK337 := sA Q_BK337; have BK338 := sA Q_BK338; have BK339 := sA Q_BK339; have BK340 := sA (Q_BK340 (hoff 9 (by kernel_rfl))); have HB := sA Q_HB; refine goes_ Try.func35 (by kernel_rfl) rfl #[.agg #[.int .i64 a1_0, .int .i64 a2_2, .int .i64 a1_2, .int .i64 a1_3, .int .i64 a1_4, .int .i64 a1_5, .int .i64 a2_1, .string (a1_7 ++ x8_59)]] (by rfl) rfl rfl (by first | (simp only [List.map_toArray, List.map_cons, List.map_nil, Act.eval, Array.getD_eq_getD_getElem?, Option.getD_some, e69]; done) | (simp only [List.map_toArray, List.map_cons, List.map_nil, Act.eval, Array.getD_eq_getD_getElem?, Option.getD_some, e69]; rfl)) ?_; (with_reducible refine (signalbenchref21_again.calls a1_0 a2_2 a1_2 a1_3 a1_4 a1_5 a2_1 (a1_7 ++ x8_59) t364 t365 t366 t367 t368 t369 t370 t371 _ A91.out).mono ?_); rintro e w101 ⟨rfl, hb⟩; refine ⟨_, rfl, ?_⟩; have n4_ := sA (below_step (hbw HB.out) hb)
              have z_HO374 := fun (h0_ : b 8 = true) => (show Kd.R k32 32 w101 w.heap.size (fun k_ => k_ ≠ gb339) v373 y372 from by first | exact (Kd.R_below (by (with_reducible repeat (first | apply Kd.R_alloc | apply Kd.R_drewN | apply Kd.R_drew)); exact (Q_HO374 h0_)) hb) | exact Kd.R_mono (Kd.R_below (by (with_reducible repeat (first | apply Kd.R_alloc | apply Kd.R_drewN | apply Kd.R_drew)); exact (Q_HO374 h0_)) hb) (fun _ h_ => by first | trivial | exact h_ | exact h_.1))
              clear HB; replace BK337 := bkB BK337 hb; replace BK338 := bkB BK338 hb; replace BK339 := bkB BK339 hb; replace BK340 := bkB BK340 hb; have HB := n4_; clear n4_; (try clear hb); refine hK.out _ _ ⟨v373, m10_, (by rw [ha.out]; exact putSel_upk 1 hb_ rfl rfl rfl), (bkw BK337.out), (bkw BK338.out), (bkw BK339.out), fun _ => (bkw BK340.out), (hbw HB.out), z_HO374, fun h0_ => absurd ((hoff 9 (by kernel_rfl)).symm.trans h0_) (by decide), fun h0_ => absurd ((hoff 10 (by kernel_rfl)).symm.trans h0_) (by decide)⟩
             refine steps_cons ?_ ?_
             ·rintro b a w' ⟨v373, m10_, ha, Q_BK337, Q_BK338, Q_BK339, Q_BK340, Q_HB, Q_HO374, Q_BK340_e9, Q_X10_⟩ hb_ hon hoff
              refine ⟨_, rfl, fun K hK => ?_⟩
              have e71 : a.tmps[71]? = some (.pointer (some ⟨gb338, 2, none⟩)) := by rw [ha]; exact (putSel_off rfl).trans rfl
              replace ha := sA ha; have BK337 := sA Q_BK337; have BK338 := sA Q_BK338; have BK339 := sA Q_BK339; have HB := sA Q_HB; have hc0_ : w'.cell? ⟨gb338, 0, none⟩ = some (.int .i64 a1_0) := ck BK338 0; have hc1_ : w'.cell? ⟨gb338, 1, none⟩ = some (.int .i64 a2_2) := ck BK338 1; have hc2_ : w'.cell? ⟨gb338, 2, none⟩ = some (.int .i64 a1_2) := ck BK338 2; have hc3_ : w'.cell? ⟨gb338, 3, none⟩ = some (.int .i64 a1_3) := ck BK338 3; have hc4_ : w'.cell? ⟨gb338, 4, none⟩ = some (.int .i64 a1_4) := ck BK338 4; have hc5_ : w'.cell? ⟨gb338, 5, none⟩ = some (.int .i64 a1_5) := ck BK338 5; have hc6_ : w'.cell? ⟨gb338, 6, none⟩ = some (.int .i64 a2_1) := ck BK338 6; have hc7_ : w'.cell? ⟨gb338, 7, none⟩ = some (.string (a1_7 ++ x8_59)) := ck BK338 7; refine value_ (w1 := w') (v := .int .i64 a1_2) (by rfl) rfl ?_ ?_
              ·go_simp
               (try simp only [i64_w, u8_w, u32_w, w64_m8, w64_m32])
               try rfl
              refine hK.out _ _ ⟨v373, m10_, (by rw [ha.out]; exact putSel_upk 2 hb_ rfl rfl rfl), Q_BK337, Q_BK338, Q_BK339, Q_BK340, Q_HB, fun h0_ => absurd ((hoff 8 (by kernel_rfl)).symm.trans h0_) (by decide), Q_BK340_e9, fun h0_ => absurd ((hoff 10 (by kernel_rfl)).symm.trans h0_) (by decide)⟩
             refine steps_cons ?_ ?_
             ·rintro b a w' ⟨v373, m10_, ha, Q_BK337, Q_BK338, Q_BK339, Q_BK340, Q_HB, Q_HO374, Q_BK340_e9, Q_X10_⟩ hb_ hon hoff
              refine ⟨_, rfl, fun K hK => ?_⟩
              have e73 : a.tmps[73]? = some (.pointer (some ⟨gb339, 2, none⟩)) := by rw [ha]; exact (putSel_off rfl).trans rfl
              replace ha := sA ha; have BK337 := sA Q_BK337; have BK338 := sA Q_BK338; have BK339 := sA Q_BK339; have HB := sA Q_HB; have hc0_ : w'.cell? ⟨gb339, 0, none⟩ = some (.int .i64 a2_0) := ck BK339 0; have hc1_ : w'.cell? ⟨gb339, 1, none⟩ = some (.int .i64 a2_1) := ck BK339 1; have hc2_ : w'.cell? ⟨gb339, 2, none⟩ = some (.int .i64 a2_2) := ck BK339 2; have hc3_ : w'.cell? ⟨gb339, 3, none⟩ = some (.int .i64 a2_3) := ck BK339 3; have hc4_ : w'.cell? ⟨gb339, 4, none⟩ = some (.int .i64 a2_4) := ck BK339 4; have hc5_ : w'.cell? ⟨gb339, 5, none⟩ = some (.string a2_5) := ck BK339 5; have hc6_ : w'.cell? ⟨gb339, 6, none⟩ = some (.int .i64 a2_6) := ck BK339 6; refine value_ (w1 := w') (v := .int .i64 a2_2) (by rfl) rfl ?_ ?_
              ·go_simp
               (try simp only [i64_w, u8_w, u32_w, w64_m8, w64_m32])
               try rfl
              refine hK.out _ _ ⟨v373, m10_, (by rw [ha.out]; exact putSel_upk 3 hb_ rfl rfl rfl), Q_BK337, Q_BK338, Q_BK339, Q_BK340, Q_HB, fun h0_ => absurd ((hoff 8 (by kernel_rfl)).symm.trans h0_) (by decide), Q_BK340_e9, fun h0_ => absurd ((hoff 10 (by kernel_rfl)).symm.trans h0_) (by decide)⟩
             refine steps_cons ?_ ?_
             ·rintro b a w' ⟨v373, m10_, ha, Q_BK337, Q_BK338, Q_BK339, Q_BK340, Q_HB, Q_HO374, Q_BK340_e9, Q_X10_⟩ hb_ hon hoff
              refine ⟨_, rfl, fun K hK => ?_⟩
              have e72 : a.tmps[72]? = some (.int .i64 a1_2) := by rw [ha]; exact putSel_on (e := (3, 72, .int .i64 a1_2)) 2 rfl rfl (hon 3 (by kernel_rfl)) rfl
              have e74 : a.tmps[74]? = some (.int .i64 a2_2) := by rw [ha]; exact putSel_on (e := (5, 74, .int .i64 a2_2)) 3 rfl rfl (hon 5 (by kernel_rfl)) rfl
              have e75 : a.tmps[75]? = some (.string t362) := by rw [ha]; exact (putSel_off rfl).trans rfl
              replace ha := sA ha; have BK337 := sA Q_BK337; have BK338 := sA Q_BK338; have BK339 := sA Q_BK339; have HB := sA Q_HB; refine value_ (w1 := w') (v := .agg #[.int .i64 5, .int .i64 a1_2, .int .i64 a2_2, .int .i64 0, .int .i64 0, .string t362, .int .i64 0]) (by rfl) rfl ?_ ?_
              ·go_simp
               (try simp only [i64_w, u8_w, u32_w, w64_m8, w64_m32])
               try rfl
              refine hK.out _ _ ⟨v373, m10_, (by rw [ha.out]; exact putSel_upk 4 hb_ rfl rfl rfl), Q_BK337, Q_BK338, Q_BK339, Q_BK340, Q_HB, fun h0_ => absurd ((hoff 8 (by kernel_rfl)).symm.trans h0_) (by decide), Q_BK340_e9, fun h0_ => absurd ((hoff 10 (by kernel_rfl)).symm.trans h0_) (by decide)⟩
             refine steps_cons ?_ ?_
             ·rintro b a w' ⟨v373, m10_, ha, Q_BK337, Q_BK338, Q_BK339, Q_BK340, Q_HB, Q_HO374, Q_BK340_e9, Q_X10_⟩ hb_ hon hoff
              refine ⟨_, rfl, fun K hK => ?_⟩
              have e76 : a.tmps[76]? = some (.agg #[.int .i64 5, .int .i64 a1_2, .int .i64 a2_2, .int .i64 0, .int .i64 0, .string t362, .int .i64 0]) := by rw [ha]; exact putSel_on (e := (7, 76, .agg #[.int .i64 5, .int .i64 a1_2, .int .i64 a2_2, .int .i64 0, .int .i64 0, .string t362, .int .i64 0])) 4 rfl rfl (hon 7 (by kernel_rfl)) rfl
              replace ha := sA ha; have BK337 := sA Q_BK337; have BK338 := sA Q_BK338; have BK339 := sA Q_BK339; have HB := sA Q_HB; refine Kd.R_lit_step k32 _ 32 ?hg (N := 77) ?hd (xs := ([(⟨5, a1_2, a2_2, 0, 0, t362, 0⟩ : S32)] : List (S32))) (inner := [.int .i64 5, .int .i64 a1_2, .int .i64 a2_2, .int .i64 0, .int .i64 0, .string t362, .int .i64 0]) (ok := fun _ => True) (okp := fun _ => True) ?hr ?hp (fun _ hk => hk) trivial (Below.refl _ _) (Nat.le_refl _) (by simp) ?_; (case hd => rfl); (case hg => rfl); (case hr => first | (go_simp; done) | (go_simp; rfl)); (case hp => exact (Reps.c7 (show Kd.M k32 _ _ _ (⟨5, a1_2, a2_2, 0, 0, t362, 0⟩ : S32) [.int .i64 5, .int .i64 a1_2, .int .i64 a2_2, .int .i64 0, .int .i64 0, .string t362, .int .i64 0] from (k32_mkM _ _ _ (⟨5, a1_2, a2_2, 0, 0, t362, 0⟩ : S32) )) (Reps.none _ _))); intro v373 w101 ho102 hb hg_ hnew_; clear hg_ hnew_
              (first | rw [← Ny372.out] at ho102 | (simp only [Int.reduceToNat] at ho102; rw [← Ny372.out] at ho102))
              have n0_ := sA (Kd.R_lower (Kd.R_newB ho102 (g := gb339) (o := .cells #[.int .i64 a2_0, .int .i64 a2_1, .int .i64 a2_2, .int .i64 a2_3, .int .i64 a2_4, .string a2_5, .int .i64 a2_6] 32 (0, 0)) (bkw BK339.out)) (below_size (hbw HB.out))); have n5_ := sA (below_step (hbw HB.out) hb)
              have z_BK340 := fun (h0_ : b 9 = false) => (show w101.heap[gb340]? = some (.cells #[.int .i64 x341000_36, .int .i64 x341001_36, .int .i64 x341002_36, .int .i64 x341003_36, .int .i64 x341004_36, .int .i64 x341005_36, .int .i64 x341006_36, .string x341007_36] 27 (0, 0)) from by first | exact (blk_below (g := gb340) (o := .cells #[.int .i64 x341000_36, .int .i64 x341001_36, .int .i64 x341002_36, .int .i64 x341003_36, .int .i64 x341004_36, .int .i64 x341005_36, .int .i64 x341006_36, .string x341007_36] 27 (0, 0)) (by (with_reducible repeat (first | refine blk_drewN ?_ _ | refine blk_drew ?_ | refine blk_alloc ?_ _)); exact (Q_BK340 h0_)) hb))
              have z_BK340_e9 := fun (h0_ : b 9 = true) => (show w101.heap[gb340]? = some (.cells #[.int .i64 t364, .int .i64 t365, .int .i64 t366, .int .i64 t367, .int .i64 t368, .int .i64 t369, .int .i64 t370, .string t371] 27 (0, 0)) from by first | exact (blk_below (g := gb340) (o := .cells #[.int .i64 t364, .int .i64 t365, .int .i64 t366, .int .i64 t367, .int .i64 t368, .int .i64 t369, .int .i64 t370, .string t371] 27 (0, 0)) (by (with_reducible repeat (first | refine blk_drewN ?_ _ | refine blk_drew ?_ | refine blk_alloc ?_ _)); exact (Q_BK340_e9 h0_)) hb))
              clear HB; have HO374 := n0_; replace BK337 := bkB BK337 hb; replace BK338 := bkB BK338 hb; replace BK339 := bkB BK339 hb; have HB := n5_; clear n0_ n5_; clear hb ho102; refine hK.out _ _ ⟨v373, m10_, (by rw [ha.out]; exact putSel_upk 5 hb_ rfl rfl rfl), (bkw BK337.out), (bkw BK338.out), (bkw BK339.out), z_BK340, (hbw HB.out), fun _ => (by (with_reducible repeat (first | apply Kd.R_alloc | apply Kd.R_drewN | apply Kd.R_drew)); exact Kd.R_mono HO374.out (fun _ hk => hk.2)), z_BK340_e9, fun h0_ => absurd ((hoff 10 (by kernel_rfl)).symm.trans h0_) (by decide)⟩
             refine steps_cons ?_ ?_
             ·rintro b a w' ⟨v373, m10_, ha, Q_BK337, Q_BK338, Q_BK339, Q_BK340, Q_HB, Q_HO374, Q_BK340_e9, Q_X10_⟩ hb_ hon hoff
              refine ⟨_, rfl, fun K hK => ?_⟩
              have e6 : a.tmps[6]? = some (.pointer (some ⟨gb340, 0, none⟩)) := by rw [ha]; exact (putSel_off rfl).trans rfl
              have e70 : a.tmps[70]? = some (.agg #[.int .i64 t364, .int .i64 t365, .int .i64 t366, .int .i64 t367, .int .i64 t368, .int .i64 t369, .int .i64 t370, .string t371]) := by rw [ha]; exact putSel_on (e := (1, 70, .agg #[.int .i64 t364, .int .i64 t365, .int .i64 t366, .int .i64 t367, .int .i64 t368, .int .i64 t369, .int .i64 t370, .string t371])) 1 rfl rfl (hon 1 (by kernel_rfl)) rfl
              replace ha := sA ha; have BK337 := sA Q_BK337; have BK338 := sA Q_BK338; have BK339 := sA Q_BK339; have BK340 := sA (Q_BK340 hb_); have HB := sA Q_HB; have hs103 : w'.cell? ⟨gb340, 0, none⟩ = some (.int .i64 x341000_36) := ck BK340 0; have hfs103 := blk_frozen BK340.out 0; have := NB337_340.out; have := NB338_340.out; have := NB339_340.out; have := NB340_337.out; have := NB340_338.out; have := NB340_339.out; have hs104 : w'.cell? ⟨gb340, 1, none⟩ = some (.int .i64 x341001_36) := ck BK340 1; have hfs104 := blk_frozen BK340.out 1; have := NB337_340.out; have := NB338_340.out; have := NB339_340.out; have := NB340_337.out; have := NB340_338.out; have := NB340_339.out; have hs105 : w'.cell? ⟨gb340, 2, none⟩ = some (.int .i64 x341002_36) := ck BK340 2; have hfs105 := blk_frozen BK340.out 2; have := NB337_340.out; have := NB338_340.out; have := NB339_340.out; have := NB340_337.out; have := NB340_338.out; have := NB340_339.out; have hs106 : w'.cell? ⟨gb340, 3, none⟩ = some (.int .i64 x341003_36) := ck BK340 3; have hfs106 := blk_frozen BK340.out 3; have := NB337_340.out; have := NB338_340.out; have := NB339_340.out; have := NB340_337.out; have := NB340_338.out; have := NB340_339.out; have hs107 : w'.cell? ⟨gb340, 4, none⟩ = some (.int .i64 x341004_36) := ck BK340 4; have hfs107 := blk_frozen BK340.out 4; have := NB337_340.out; have := NB338_340.out; have := NB339_340.out; have := NB340_337.out; have := NB340_338.out; have := NB340_339.out; have hs108 : w'.cell? ⟨gb340, 5, none⟩ = some (.int .i64 x341005_36) := ck BK340 5; have hfs108 := blk_frozen BK340.out 5; have := NB337_340.out; have := NB338_340.out; have := NB339_340.out; have := NB340_337.out; have := NB340_338.out; have := NB340_339.out; have hs109 : w'.cell? ⟨gb340, 6, none⟩ = some (.int .i64 x341006_36) := ck BK340 6; have hfs109 := blk_frozen BK340.out 6; have := NB337_340.out; have := NB338_340.out; have := NB339_340.out; have := NB340_337.out; have := NB340_338.out; have := NB340_339.out; have hs110 : w'.cell? ⟨gb340, 7, none⟩ = some (.string x341007_36) := ck BK340 7; have hfs110 := blk_frozen BK340.out 7; have := NB337_340.out; have := NB338_340.out; have := NB339_340.out; have := NB340_337.out; have := NB340_338.out; have := NB340_339.out; refine skip_ (w1 := ?_) (by rfl) rfl ?_ ?_; rotate_left
              ·go_simp
               rfl
              refine hK.out _ _ ⟨v373, m10_, (by rw [ha.out]; exact putSel_none (v := undef) rfl), (by (repeat (with_reducible first | refine blk_far ?_ NB337_340.out _ | refine blk_drewN ?_ _ | refine blk_drew ?_ | refine blk_alloc ?_ _)); exact BK337.out), (by (repeat (with_reducible first | refine blk_far ?_ NB338_340.out _ | refine blk_drewN ?_ _ | refine blk_drew ?_ | refine blk_alloc ?_ _)); exact BK338.out), (by (repeat (with_reducible first | refine blk_far ?_ NB339_340.out _ | refine blk_drewN ?_ _ | refine blk_drew ?_ | refine blk_alloc ?_ _)); exact BK339.out), fun h0_ => absurd ((up_self b 9).symm.trans h0_) (by decide), (hbw HB.out), fun h0_ => (by (with_reducible repeat (first | apply Kd.R_alloc | apply Kd.R_drewN | apply Kd.R_drew)); exact Kd.R_mono (Kd.R_far (p := ⟨gb340, 7, none⟩) (Kd.R_far (p := ⟨gb340, 6, none⟩) (Kd.R_far (p := ⟨gb340, 5, none⟩) (Kd.R_far (p := ⟨gb340, 4, none⟩) (Kd.R_far (p := ⟨gb340, 3, none⟩) (Kd.R_far (p := ⟨gb340, 2, none⟩) (Kd.R_far (p := ⟨gb340, 1, none⟩) (Kd.R_far (p := ⟨gb340, 0, none⟩) (Kd.R_types (Q_HO374 h0_) BK340.out (by decide)) (fun _ hk => hk.2) (.int .i64 t364)) (fun _ hk => hk.2) (.int .i64 t365)) (fun _ hk => hk.2) (.int .i64 t366)) (fun _ hk => hk.2) (.int .i64 t367)) (fun _ hk => hk.2) (.int .i64 t368)) (fun _ hk => hk.2) (.int .i64 t369)) (fun _ hk => hk.2) (.int .i64 t370)) (fun _ hk => hk.2) (.string t371)) (fun _ hk => hk.1)), fun _ => (by (with_reducible repeat (first | refine blk_drewN ?_ _ | refine blk_drew ?_ | refine blk_alloc ?_ _)); refine blk_put8 (.int .i64 x341000_36) (.int .i64 x341001_36) (.int .i64 x341002_36) (.int .i64 x341003_36) (.int .i64 x341004_36) (.int .i64 x341005_36) (.int .i64 x341006_36) (.string x341007_36) ?_; (with_reducible repeat (first | refine blk_drewN ?_ _ | refine blk_drew ?_ | refine blk_alloc ?_ _)); exact BK340.out), fun h0_ => absurd ((hoff 10 (by kernel_rfl)).symm.trans h0_) (by decide)⟩
             refine steps_cons ?_ ?_
             ·rintro b a w' ⟨v373, m10_, ha, Q_BK337, Q_BK338, Q_BK339, Q_BK340, Q_HB, Q_HO374, Q_BK340_e9, Q_X10_⟩ hb_ hon hoff
              refine ⟨_, rfl, fun K hK => ?_⟩
              have e77 : a.tmps[77]? = some (v373) := by rw [ha]; exact putSel_on (e := (8, 77, v373)) 5 rfl rfl (hon 8 (by kernel_rfl)) rfl
              replace ha := sA ha; have BK337 := sA Q_BK337; have BK338 := sA Q_BK338; have BK339 := sA Q_BK339; have HB := sA Q_HB; have HO374 := sA (Q_HO374 (hon 8 (by kernel_rfl))); have BK340 := sA (Q_BK340_e9 (hon 9 (by kernel_rfl))); refine value_ (w1 := w') (v := v373) (by rfl) rfl ?_ ?_
              ·go_simp
               (try simp only [i64_w, u8_w, u32_w, w64_m8, w64_m32])
               try rfl
              refine hK.out _ _ ⟨v373, (v373), (by rw [ha.out]; exact putSel_upk 6 hb_ rfl rfl rfl), Q_BK337, Q_BK338, Q_BK339, fun h0_ => absurd ((hon 9 (by kernel_rfl)).symm.trans h0_) (by decide), Q_HB, Q_HO374, Q_BK340_e9, fun _ => rfl⟩
             exact steps_nil
            rintro b a w112 hall ⟨v373, m10_, ha, Q_BK337, Q_BK338, Q_BK339, Q_BK340, Q_HB, Q_HO374, Q_BK340_e9, Q_X10_⟩; clear BK337 BK338 BK339 BK340 HB; have hb0_ := hall 0 (by kernel_rfl); have hb1_ := hall 1 (by kernel_rfl); have hb3_ := hall 3 (by kernel_rfl); have hb5_ := hall 5 (by kernel_rfl); have hb7_ := hall 7 (by kernel_rfl); have hb8_ := hall 8 (by kernel_rfl); have hb9_ := hall 9 (by kernel_rfl); have hb10_ := hall 10 (by kernel_rfl); subst ha; obtain rfl := Q_X10_ hb10_
            simp only [putSel, hb0_, hb1_, hb3_, hb5_, hb7_, hb8_, hb9_, hb10_, if_true, Act.put, List.setIfInBounds_toArray, List.set_cons_zero, List.set_cons_succ]
            have BK337 := sA Q_BK337; clear Q_BK337; have BK338 := sA Q_BK338; clear Q_BK338; have BK339 := sA Q_BK339; clear Q_BK339; clear Q_BK340; have HB := sA Q_HB; clear Q_HB; have HO374 := sA (Q_HO374 hb8_); clear Q_HO374; have BK340 := sA (Q_BK340_e9 hb9_); clear Q_BK340_e9; clear hall hb0_ hb1_ hb3_ hb5_ hb7_ hb8_ hb9_ hb10_
            try go_wp2
            refine bodyPost_ret (results_ct rfl _ _ gb340 27 #[.int .i64 t364, .int .i64 t365, .int .i64 t366, .int .i64 t367, .int .i64 t368, .int .i64 t369, .int .i64 t370, .string t371] (0, 0) _ rfl (bkw BK340.out) Try.underlying27 rfl (by kernel_rfl)) rfl ?_
            exact ⟨_, eW_, by (with_reducible repeat (first | apply Kd.R_alloc | apply Kd.R_drewN | apply Kd.R_drew)); exact Kd.R_mono HO374.out (fun _ hk => trivial), hbw HB.out⟩
          ·rw [if_neg c79] at H
           exact absurd H (by simp)

end Go.Proofs.Ytbggkaofkohecaa.PSyncDecodes
