-- Written by a program of this session (wip/tools/pr.py), which calls the kit's print with changes of its own.
import Derived.Test.YtgcifmaefoeobaaPScrambleSynchronizesx0
import Derived.Test.YtgcifmaefoeobaaPScrambleSynchronizesx3
import Derived.Test.YtgcifmaefoeobaaPScrambleSynchronizesx4
import Derived.Test.YtgcifmaefoeobaaPScrambleSynchronizesx7
import Derived.Test.YtgcifmaefoeobaaPScrambleSynchronizesx8
namespace Go.Proofs.Ytgcifmaefoeobaa.PScrambleSynchronizes
open Go.RowKit Go.Proofs.YtgcifmaefoeobaaW.PrintWords Go.Proofs.YtgcifmaefoeobaaW.PrintLast Go.Proofs.YtgcifmaefoeobaaW.PrintMore
attribute [local go_sem] max2_int min2_int max_two min_two max_three min_three max_four min_four   -- for this text's walks alone
set_option linter.unusedVariables false
set_option linter.unusedSimpArgs false

/-! ### signalbenchlaw20_ScrambleSynchronizes: function 7 -/
mutual
def signalbenchlaw20_ScrambleSynchronizes.j0 : Nat → ByteArray → ByteArray → ByteArray → Bool → Int → Int → Option (Bool)
 | 0, _, _, _, _, _, _ => none
 | k + 1, x1, x2, x3, x30, x225000, x225001 => if x30 = true then ((signalbenchlaw20_awake.f k).bind fun t229 => (some t229)) else (signalbenchlaw20_ScrambleSynchronizes.j1 k x1 x2 x3 x225000 x225001)
def signalbenchlaw20_ScrambleSynchronizes.j1 : Nat → ByteArray → ByteArray → ByteArray → Int → Int → Option (Bool)
 | 0, _, _, _, _, _ => none
 | k + 1, x1, x2, x3, x225000, x225001 => (scramble_Encode.f k x225000 x225001 (([(⟨0, 0, 0, x1, 0⟩ : S46), (⟨0, 0, 0, x3, 0⟩ : S46)] : List (S46)))).bind fun bt233 => (if bt233.2 = 0 then (signalbenchlaw20_ScrambleSynchronizes.j2 k x2 x3 bt233.1 ((bt233.1.length : Int) != 2) x225000 x225001) else (signalbenchlaw20_ScrambleSynchronizes.j2 k x2 x3 bt233.1 true x225000 x225001))
def signalbenchlaw20_ScrambleSynchronizes.j2 : Nat → ByteArray → ByteArray → List (S46) → Bool → Int → Int → Option (Bool)
 | 0, _, _, _, _, _, _ => none
 | k + 1, x2, x3, x9, x48, x225000, x225001 => if x48 = true then (some false) else (signalbenchlaw20_ScrambleSynchronizes.j3 k x2 x3 x9 x225000 x225001)
def signalbenchlaw20_ScrambleSynchronizes.j3 : Nat → ByteArray → ByteArray → List (S46) → Int → Int → Option (Bool)
 | 0, _, _, _, _, _ => none
 | k + 1, x2, x3, x9, x225000, x225001 => if 1 < (x9.length : Int) then (if x2.size + ((rd_T46 x9 1).f3).size ≤ 9223372036854775807 then ((signalbenchlaw20_bits.f k (x2 ++ ((rd_T46 x9 1).f3))).bind fun t238 => ((scramble_Decode.f k x225000 x225001 t238).bind fun t241 => ((signalbenchlaw20_told.f k t241).bind fun t244 => (if (t244.size : Int) = (wrap64 ((x2.size : Int) + (x3.size : Int))) then (signalbenchlaw20_ScrambleSynchronizes.j4 k x2 x3 t244 x225000 x225001) else (some false))))) else (none)) else (none)
def signalbenchlaw20_ScrambleSynchronizes.j4 : Nat → ByteArray → ByteArray → ByteArray → Int → Int → Option (Bool)
 | 0, _, _, _, _, _ => none
 | k + 1, x2, x3, x11, x225000, x225001 => signalbenchlaw20_ScrambleSynchronizes.l0 k x2 x3 x11 x225000
def signalbenchlaw20_ScrambleSynchronizes.l0 : Nat → ByteArray → ByteArray → ByteArray → Int → Option (Bool)
 | 0, _, _, _, _ => none
 | k + 1, x2, x3, x11, x12 => if x12 < (x3.size : Int) then (if 0 ≤ (wrap64 ((x2.size : Int) + x12)) then (if (wrap64 ((x2.size : Int) + x12)) < (x11.size : Int) then (if 0 ≤ x12 then (if (bt x11 (wrap64 ((x2.size : Int) + x12))) = (bt x3 x12) then (signalbenchlaw20_ScrambleSynchronizes.l0 k x2 x3 x11 (wrap64 (x12 + 1))) else (some false)) else (none)) else (none)) else (none)) else ((signalbenchlaw20_awake.f k).bind fun t245 => (some t245))
end
def signalbenchlaw20_ScrambleSynchronizes.f (k : Nat) (a0_0 : Int) (a0_1 : Int) (a1 : ByteArray) (a2 : ByteArray) (a3 : ByteArray) : Option (Bool) := (scramble_Check.f k a0_0 a0_1).bind fun t225 => (if t225 = 0 then ((signalbenchlaw20_valid.f k a1 2000).bind fun t226 => (if t226 = true then ((signalbenchlaw20_valid.f k a2 2000).bind fun t227 => (if t227 = true then ((signalbenchlaw20_valid.f k a3 2000).bind fun t228 => (signalbenchlaw20_ScrambleSynchronizes.j0 k a1 a2 a3 (!t228) a0_0 a0_1)) else (signalbenchlaw20_ScrambleSynchronizes.j0 k a1 a2 a3 true a0_0 a0_1))) else (signalbenchlaw20_ScrambleSynchronizes.j0 k a1 a2 a3 true a0_0 a0_1))) else (signalbenchlaw20_ScrambleSynchronizes.j0 k a1 a2 a3 true a0_0 a0_1))
theorem signalbenchlaw20_ScrambleSynchronizes.mono_l : ∀ k, (∀ y0 y1 y2 y3 y4 y5, LeO (signalbenchlaw20_ScrambleSynchronizes.j0 k y0 y1 y2 y3 y4 y5) (signalbenchlaw20_ScrambleSynchronizes.j0 (k + 1) y0 y1 y2 y3 y4 y5)) ∧ (∀ y0 y1 y2 y3 y4, LeO (signalbenchlaw20_ScrambleSynchronizes.j1 k y0 y1 y2 y3 y4) (signalbenchlaw20_ScrambleSynchronizes.j1 (k + 1) y0 y1 y2 y3 y4)) ∧ (∀ y0 y1 y2 y3 y4 y5, LeO (signalbenchlaw20_ScrambleSynchronizes.j2 k y0 y1 y2 y3 y4 y5) (signalbenchlaw20_ScrambleSynchronizes.j2 (k + 1) y0 y1 y2 y3 y4 y5)) ∧ (∀ y0 y1 y2 y3 y4, LeO (signalbenchlaw20_ScrambleSynchronizes.j3 k y0 y1 y2 y3 y4) (signalbenchlaw20_ScrambleSynchronizes.j3 (k + 1) y0 y1 y2 y3 y4)) ∧ (∀ y0 y1 y2 y3 y4, LeO (signalbenchlaw20_ScrambleSynchronizes.j4 k y0 y1 y2 y3 y4) (signalbenchlaw20_ScrambleSynchronizes.j4 (k + 1) y0 y1 y2 y3 y4)) ∧ (∀ y0 y1 y2 y3, LeO (signalbenchlaw20_ScrambleSynchronizes.l0 k y0 y1 y2 y3) (signalbenchlaw20_ScrambleSynchronizes.l0 (k + 1) y0 y1 y2 y3))
 | 0 => ⟨fun _ _ _ _ _ _ r h => by simp [signalbenchlaw20_ScrambleSynchronizes.j0] at h, fun _ _ _ _ _ r h => by simp [signalbenchlaw20_ScrambleSynchronizes.j1] at h, fun _ _ _ _ _ _ r h => by simp [signalbenchlaw20_ScrambleSynchronizes.j2] at h, fun _ _ _ _ _ r h => by simp [signalbenchlaw20_ScrambleSynchronizes.j3] at h, fun _ _ _ _ _ r h => by simp [signalbenchlaw20_ScrambleSynchronizes.j4] at h, fun _ _ _ _ r h => by simp [signalbenchlaw20_ScrambleSynchronizes.l0] at h⟩
 | k + 1 => by
  obtain ⟨ih0, ih1, ih2, ih3, ih4, ih5⟩ := signalbenchlaw20_ScrambleSynchronizes.mono_l k
  refine ⟨?_, ?_, ?_, ?_, ?_, ?_⟩
  ·intro y0 y1 y2 y3 y4 y5
   unfold signalbenchlaw20_ScrambleSynchronizes.j0
   repeat' first
   | (with_reducible exact ih0 _ _ _ _ _ _)
   | (with_reducible exact ih1 _ _ _ _ _)
   | (with_reducible exact ih2 _ _ _ _ _ _)
   | (with_reducible exact ih3 _ _ _ _ _)
   | (with_reducible exact ih4 _ _ _ _ _)
   | (with_reducible exact ih5 _ _ _ _)
   | (with_reducible exact scramble_Check.mono _ _ _)
   | (with_reducible exact scramble_Decode.mono _ _ _ _)
   | (with_reducible exact scramble_Encode.mono _ _ _ _)
   | (with_reducible exact signalbenchlaw20_awake.mono _)
   | (with_reducible exact signalbenchlaw20_bits.mono _ _)
   | (with_reducible exact signalbenchlaw20_told.mono _ _)
   | (with_reducible exact signalbenchlaw20_valid.mono _ _ _)
   | (with_reducible exact LeO.refl _)
   | (with_reducible exact LeO.none _)
   | (with_reducible refine LeO.ite ?_ ?_)
   | (with_reducible refine LeO.bind ?_ (fun _ => ?_))
   | exact ih0 _ _ _ _ _ _
   | exact ih1 _ _ _ _ _
   | exact ih2 _ _ _ _ _ _
   | exact ih3 _ _ _ _ _
   | exact ih4 _ _ _ _ _
   | exact ih5 _ _ _ _
   | exact scramble_Check.mono _ _ _
   | exact scramble_Decode.mono _ _ _ _
   | exact scramble_Encode.mono _ _ _ _
   | exact signalbenchlaw20_awake.mono _
   | exact signalbenchlaw20_bits.mono _ _
   | exact signalbenchlaw20_told.mono _ _
   | exact signalbenchlaw20_valid.mono _ _ _
   | exact LeO.none _
   | refine LeO.ite ?_ ?_
   | refine LeO.bind ?_ (fun _ => ?_)
  ·intro y0 y1 y2 y3 y4
   unfold signalbenchlaw20_ScrambleSynchronizes.j1
   repeat' first
   | (with_reducible exact ih0 _ _ _ _ _ _)
   | (with_reducible exact ih1 _ _ _ _ _)
   | (with_reducible exact ih2 _ _ _ _ _ _)
   | (with_reducible exact ih3 _ _ _ _ _)
   | (with_reducible exact ih4 _ _ _ _ _)
   | (with_reducible exact ih5 _ _ _ _)
   | (with_reducible exact scramble_Check.mono _ _ _)
   | (with_reducible exact scramble_Decode.mono _ _ _ _)
   | (with_reducible exact scramble_Encode.mono _ _ _ _)
   | (with_reducible exact signalbenchlaw20_awake.mono _)
   | (with_reducible exact signalbenchlaw20_bits.mono _ _)
   | (with_reducible exact signalbenchlaw20_told.mono _ _)
   | (with_reducible exact signalbenchlaw20_valid.mono _ _ _)
   | (with_reducible exact LeO.refl _)
   | (with_reducible exact LeO.none _)
   | (with_reducible refine LeO.ite ?_ ?_)
   | (with_reducible refine LeO.bind ?_ (fun _ => ?_))
   | exact ih0 _ _ _ _ _ _
   | exact ih1 _ _ _ _ _
   | exact ih2 _ _ _ _ _ _
   | exact ih3 _ _ _ _ _
   | exact ih4 _ _ _ _ _
   | exact ih5 _ _ _ _
   | exact scramble_Check.mono _ _ _
   | exact scramble_Decode.mono _ _ _ _
   | exact scramble_Encode.mono _ _ _ _
   | exact signalbenchlaw20_awake.mono _
   | exact signalbenchlaw20_bits.mono _ _
   | exact signalbenchlaw20_told.mono _ _
   | exact signalbenchlaw20_valid.mono _ _ _
   | exact LeO.none _
   | refine LeO.ite ?_ ?_
   | refine LeO.bind ?_ (fun _ => ?_)
  ·intro y0 y1 y2 y3 y4 y5
   unfold signalbenchlaw20_ScrambleSynchronizes.j2
   repeat' first
   | (with_reducible exact ih0 _ _ _ _ _ _)
   | (with_reducible exact ih1 _ _ _ _ _)
   | (with_reducible exact ih2 _ _ _ _ _ _)
   | (with_reducible exact ih3 _ _ _ _ _)
   | (with_reducible exact ih4 _ _ _ _ _)
   | (with_reducible exact ih5 _ _ _ _)
   | (with_reducible exact scramble_Check.mono _ _ _)
   | (with_reducible exact scramble_Decode.mono _ _ _ _)
   | (with_reducible exact scramble_Encode.mono _ _ _ _)
   | (with_reducible exact signalbenchlaw20_awake.mono _)
   | (with_reducible exact signalbenchlaw20_bits.mono _ _)
   | (with_reducible exact signalbenchlaw20_told.mono _ _)
   | (with_reducible exact signalbenchlaw20_valid.mono _ _ _)
   | (with_reducible exact LeO.refl _)
   | (with_reducible exact LeO.none _)
   | (with_reducible refine LeO.ite ?_ ?_)
   | (with_reducible refine LeO.bind ?_ (fun _ => ?_))
   | exact ih0 _ _ _ _ _ _
   | exact ih1 _ _ _ _ _
   | exact ih2 _ _ _ _ _ _
   | exact ih3 _ _ _ _ _
   | exact ih4 _ _ _ _ _
   | exact ih5 _ _ _ _
   | exact scramble_Check.mono _ _ _
   | exact scramble_Decode.mono _ _ _ _
   | exact scramble_Encode.mono _ _ _ _
   | exact signalbenchlaw20_awake.mono _
   | exact signalbenchlaw20_bits.mono _ _
   | exact signalbenchlaw20_told.mono _ _
   | exact signalbenchlaw20_valid.mono _ _ _
   | exact LeO.none _
   | refine LeO.ite ?_ ?_
   | refine LeO.bind ?_ (fun _ => ?_)
  ·intro y0 y1 y2 y3 y4
   unfold signalbenchlaw20_ScrambleSynchronizes.j3
   repeat' first
   | (with_reducible exact ih0 _ _ _ _ _ _)
   | (with_reducible exact ih1 _ _ _ _ _)
   | (with_reducible exact ih2 _ _ _ _ _ _)
   | (with_reducible exact ih3 _ _ _ _ _)
   | (with_reducible exact ih4 _ _ _ _ _)
   | (with_reducible exact ih5 _ _ _ _)
   | (with_reducible exact scramble_Check.mono _ _ _)
   | (with_reducible exact scramble_Decode.mono _ _ _ _)
   | (with_reducible exact scramble_Encode.mono _ _ _ _)
   | (with_reducible exact signalbenchlaw20_awake.mono _)
   | (with_reducible exact signalbenchlaw20_bits.mono _ _)
   | (with_reducible exact signalbenchlaw20_told.mono _ _)
   | (with_reducible exact signalbenchlaw20_valid.mono _ _ _)
   | (with_reducible exact LeO.refl _)
   | (with_reducible exact LeO.none _)
   | (with_reducible refine LeO.ite ?_ ?_)
   | (with_reducible refine LeO.bind ?_ (fun _ => ?_))
   | exact ih0 _ _ _ _ _ _
   | exact ih1 _ _ _ _ _
   | exact ih2 _ _ _ _ _ _
   | exact ih3 _ _ _ _ _
   | exact ih4 _ _ _ _ _
   | exact ih5 _ _ _ _
   | exact scramble_Check.mono _ _ _
   | exact scramble_Decode.mono _ _ _ _
   | exact scramble_Encode.mono _ _ _ _
   | exact signalbenchlaw20_awake.mono _
   | exact signalbenchlaw20_bits.mono _ _
   | exact signalbenchlaw20_told.mono _ _
   | exact signalbenchlaw20_valid.mono _ _ _
   | exact LeO.none _
   | refine LeO.ite ?_ ?_
   | refine LeO.bind ?_ (fun _ => ?_)
  ·intro y0 y1 y2 y3 y4
   unfold signalbenchlaw20_ScrambleSynchronizes.j4
   repeat' first
   | (with_reducible exact ih0 _ _ _ _ _ _)
   | (with_reducible exact ih1 _ _ _ _ _)
   | (with_reducible exact ih2 _ _ _ _ _ _)
   | (with_reducible exact ih3 _ _ _ _ _)
   | (with_reducible exact ih4 _ _ _ _ _)
   | (with_reducible exact ih5 _ _ _ _)
   | (with_reducible exact scramble_Check.mono _ _ _)
   | (with_reducible exact scramble_Decode.mono _ _ _ _)
   | (with_reducible exact scramble_Encode.mono _ _ _ _)
   | (with_reducible exact signalbenchlaw20_awake.mono _)
   | (with_reducible exact signalbenchlaw20_bits.mono _ _)
   | (with_reducible exact signalbenchlaw20_told.mono _ _)
   | (with_reducible exact signalbenchlaw20_valid.mono _ _ _)
   | (with_reducible exact LeO.refl _)
   | (with_reducible exact LeO.none _)
   | (with_reducible refine LeO.ite ?_ ?_)
   | (with_reducible refine LeO.bind ?_ (fun _ => ?_))
   | exact ih0 _ _ _ _ _ _
   | exact ih1 _ _ _ _ _
   | exact ih2 _ _ _ _ _ _
   | exact ih3 _ _ _ _ _
   | exact ih4 _ _ _ _ _
   | exact ih5 _ _ _ _
   | exact scramble_Check.mono _ _ _
   | exact scramble_Decode.mono _ _ _ _
   | exact scramble_Encode.mono _ _ _ _
   | exact signalbenchlaw20_awake.mono _
   | exact signalbenchlaw20_bits.mono _ _
   | exact signalbenchlaw20_told.mono _ _
   | exact signalbenchlaw20_valid.mono _ _ _
   | exact LeO.none _
   | refine LeO.ite ?_ ?_
   | refine LeO.bind ?_ (fun _ => ?_)
  ·intro y0 y1 y2 y3
   unfold signalbenchlaw20_ScrambleSynchronizes.l0
   repeat' first
   | (with_reducible exact ih0 _ _ _ _ _ _)
   | (with_reducible exact ih1 _ _ _ _ _)
   | (with_reducible exact ih2 _ _ _ _ _ _)
   | (with_reducible exact ih3 _ _ _ _ _)
   | (with_reducible exact ih4 _ _ _ _ _)
   | (with_reducible exact ih5 _ _ _ _)
   | (with_reducible exact scramble_Check.mono _ _ _)
   | (with_reducible exact scramble_Decode.mono _ _ _ _)
   | (with_reducible exact scramble_Encode.mono _ _ _ _)
   | (with_reducible exact signalbenchlaw20_awake.mono _)
   | (with_reducible exact signalbenchlaw20_bits.mono _ _)
   | (with_reducible exact signalbenchlaw20_told.mono _ _)
   | (with_reducible exact signalbenchlaw20_valid.mono _ _ _)
   | (with_reducible exact LeO.refl _)
   | (with_reducible exact LeO.none _)
   | (with_reducible refine LeO.ite ?_ ?_)
   | (with_reducible refine LeO.bind ?_ (fun _ => ?_))
   | exact ih0 _ _ _ _ _ _
   | exact ih1 _ _ _ _ _
   | exact ih2 _ _ _ _ _ _
   | exact ih3 _ _ _ _ _
   | exact ih4 _ _ _ _ _
   | exact ih5 _ _ _ _
   | exact scramble_Check.mono _ _ _
   | exact scramble_Decode.mono _ _ _ _
   | exact scramble_Encode.mono _ _ _ _
   | exact signalbenchlaw20_awake.mono _
   | exact signalbenchlaw20_bits.mono _ _
   | exact signalbenchlaw20_told.mono _ _
   | exact signalbenchlaw20_valid.mono _ _ _
   | exact LeO.none _
   | refine LeO.ite ?_ ?_
   | refine LeO.bind ?_ (fun _ => ?_)
theorem signalbenchlaw20_ScrambleSynchronizes.mono : ∀ a0 a1 a2 a3 a4 k, LeO (signalbenchlaw20_ScrambleSynchronizes.f k a0 a1 a2 a3 a4) (signalbenchlaw20_ScrambleSynchronizes.f (k + 1) a0 a1 a2 a3 a4) := by
 intro a0 a1 a2 a3 a4 k
 obtain ⟨ih0, ih1, ih2, ih3, ih4, ih5⟩ := signalbenchlaw20_ScrambleSynchronizes.mono_l k
 unfold signalbenchlaw20_ScrambleSynchronizes.f
 repeat' first
   | (with_reducible exact ih0 _ _ _ _ _ _)
   | (with_reducible exact ih1 _ _ _ _ _)
   | (with_reducible exact ih2 _ _ _ _ _ _)
   | (with_reducible exact ih3 _ _ _ _ _)
   | (with_reducible exact ih4 _ _ _ _ _)
   | (with_reducible exact ih5 _ _ _ _)
   | (with_reducible exact scramble_Check.mono _ _ _)
   | (with_reducible exact scramble_Decode.mono _ _ _ _)
   | (with_reducible exact scramble_Encode.mono _ _ _ _)
   | (with_reducible exact signalbenchlaw20_awake.mono _)
   | (with_reducible exact signalbenchlaw20_bits.mono _ _)
   | (with_reducible exact signalbenchlaw20_told.mono _ _)
   | (with_reducible exact signalbenchlaw20_valid.mono _ _ _)
   | (with_reducible exact LeO.refl _)
   | (with_reducible exact LeO.none _)
   | (with_reducible refine LeO.ite ?_ ?_)
   | (with_reducible refine LeO.bind ?_ (fun _ => ?_))
   | exact ih0 _ _ _ _ _ _
   | exact ih1 _ _ _ _ _
   | exact ih2 _ _ _ _ _ _
   | exact ih3 _ _ _ _ _
   | exact ih4 _ _ _ _ _
   | exact ih5 _ _ _ _
   | exact scramble_Check.mono _ _ _
   | exact scramble_Decode.mono _ _ _ _
   | exact scramble_Encode.mono _ _ _ _
   | exact signalbenchlaw20_awake.mono _
   | exact signalbenchlaw20_bits.mono _ _
   | exact signalbenchlaw20_told.mono _ _
   | exact signalbenchlaw20_valid.mono _ _ _
   | exact LeO.none _
   | refine LeO.ite ?_ ?_
   | refine LeO.bind ?_ (fun _ => ?_)
def signalbenchlaw20_ScrambleSynchronizes.T6 : Bool × List (List Nat × List Nat) := (true, [([], []), ([], []), ([], []), ([2], [2]), ([3], [3]), ([4], [4]), ([1, 5], [1, 5]), ([6], [6]), ([0, 7, 7], [0, 7]), ([8, 8], [8]), ([9, 9, 0, 1, 2, 3, 4, 5, 6, 7, 8, 9], [9])])
def signalbenchlaw20_ScrambleSynchronizes.B6 : List Nat := [0, 0, 0, 4, 12, 28, 62, 126, 255, 511, 1023]
theorem signalbenchlaw20_ScrambleSynchronizes.tab6 : rtab .any (opsOf Try.f7 6) = signalbenchlaw20_ScrambleSynchronizes.T6 := by kernel_rfl
theorem signalbenchlaw20_ScrambleSynchronizes.bits6 : waitsOk signalbenchlaw20_ScrambleSynchronizes.T6.2 signalbenchlaw20_ScrambleSynchronizes.B6 = true := by kernel_rfl
def signalbenchlaw20_ScrambleSynchronizes.T12 : Bool × List (List Nat × List Nat) := (true, [([], []), ([], []), ([1], [1]), ([], []), ([2, 3], [2, 3]), ([0, 4], [0, 4]), ([], []), ([], []), ([6, 7], [6, 7]), ([5, 8], [5, 8])])
def signalbenchlaw20_ScrambleSynchronizes.B12 : List Nat := [0, 0, 2, 0, 14, 31, 0, 0, 192, 511]
theorem signalbenchlaw20_ScrambleSynchronizes.tab12 : rtab .any (opsOf Try.f7 12) = signalbenchlaw20_ScrambleSynchronizes.T12 := by kernel_rfl
theorem signalbenchlaw20_ScrambleSynchronizes.bits12 : waitsOk signalbenchlaw20_ScrambleSynchronizes.T12.2 signalbenchlaw20_ScrambleSynchronizes.B12 = true := by kernel_rfl
set_option maxHeartbeats 8000000 in
set_option maxRecDepth 100000 in
theorem signalbenchlaw20_ScrambleSynchronizes.calls (k : Nat) (a0_0 : Int) (a0_1 : Int) (a1 : ByteArray) (a2 : ByteArray) (a3 : ByteArray) (r : Bool) (w : World) (h : signalbenchlaw20_ScrambleSynchronizes.f k a0_0 a0_1 a1 a2 a3 = some r) :
  Calls Try.prog 7 #[.agg #[.int .i64 a0_0, .int .i64 a0_1], .string a1, .string a2, .string a3] w fun e w' => e = .returned (.bool r) ∧ Below w.heap.size w w' := by
 have hu23 := Try.underlying23
 have hu46 := Try.underlying46
 have HB := Aside0.mk (Below.refl w.heap.size w)
 have H : ((scramble_Check.f k a0_0 a0_1).bind fun t225 => (if t225 = 0 then ((signalbenchlaw20_valid.f k a1 2000).bind fun t226 => (if t226 = true then ((signalbenchlaw20_valid.f k a2 2000).bind fun t227 => (if t227 = true then ((signalbenchlaw20_valid.f k a3 2000).bind fun t228 => (signalbenchlaw20_ScrambleSynchronizes.j0 k a1 a2 a3 (!t228) a0_0 a0_1)) else (signalbenchlaw20_ScrambleSynchronizes.j0 k a1 a2 a3 true a0_0 a0_1))) else (signalbenchlaw20_ScrambleSynchronizes.j0 k a1 a2 a3 true a0_0 a0_1))) else (signalbenchlaw20_ScrambleSynchronizes.j0 k a1 a2 a3 true a0_0 a0_1))) = some r := h
 clear h
 have HC5 := Aside0.mk H
 clear H
 go_enter Try.func7, Try.ntmps7
 go_upto_region 1 with (first | ((with_reducible refine gate_dst (N := 4) rfl ?_); (try (refine gate_guard (by rfl) ?_; dsimp only)); refine box_event ?hg (N := 4) ?hd (cs := #[.int .i64 a0_0, .int .i64 a0_1]) (t := 23) ?hr ?_; (case hd => rfl); (case hg => rfl); (case hr => first | (go_simp; done) | (go_simp; rfl)); intro gb224 hg w6 hbox hb; have n0_ := Aside0.mk (below_step (hbw HB.out) hb); have n1_ := Aside0.mk (hbox); have n2_ := Aside0.mk ((by rw [hg]; exact (below_size (hbw HB.out)) : w.heap.size ≤ gb224)); have n3_ := Aside0.mk ((by rw [hg]; exact (below_size (hbw HB.out)) : w.heap.size ≤ gb224)); clear HB; have HB := n0_; have BK224 := n1_; have GW224 := n2_; have GE224 := n3_; clear n0_ n1_ n2_ n3_; clear hb hbox hg))
 (try simp only [Act.put, List.setIfInBounds_toArray, List.set_cons_zero, List.set_cons_succ])
 go_cut [30] (fun v30 wc => ∃ (kq : Nat) (x30_4 : Bool), v30 = .bool x30_4 ∧ Aside0 (signalbenchlaw20_ScrambleSynchronizes.j0 kq a1 a2 a3 x30_4 a0_0 a0_1 = some r) ∧ Aside0 (kq ≤ k) ∧ Aside0 (wc.heap[gb224]? = some (.cells #[.int .i64 a0_0, .int .i64 a0_1] 23 (0, 0))) ∧ Aside0 (Below w.heap.size w wc))
 case first =>
  have H := HC5.out
  clear HC5
  replace H := Option.bind_eq_some_iff.mp H
  obtain ⟨t225, A70, H⟩ := H
  replace H : (if t225 = 0 then ((signalbenchlaw20_valid.f k a1 2000).bind fun t226 => (if t226 = true then ((signalbenchlaw20_valid.f k a2 2000).bind fun t227 => (if t227 = true then ((signalbenchlaw20_valid.f k a3 2000).bind fun t228 => (signalbenchlaw20_ScrambleSynchronizes.j0 k a1 a2 a3 (!t228) a0_0 a0_1)) else (signalbenchlaw20_ScrambleSynchronizes.j0 k a1 a2 a3 true a0_0 a0_1))) else (signalbenchlaw20_ScrambleSynchronizes.j0 k a1 a2 a3 true a0_0 a0_1))) else (signalbenchlaw20_ScrambleSynchronizes.j0 k a1 a2 a3 true a0_0 a0_1)) = some r := H
  have A7 := Aside0.mk A70
  clear A70
  by_cases c8 : t225 = 0
  ·rw [if_pos c8] at H
   have c8b0 : (t225 == 0) = true := beq_iff_eq.mpr c8
   have c8b1 : (t225 != 0) = false := bne_eq_false_iff_eq.mpr c8
   clear c8
   (first | rw [c8b0] | (simp only [i64_w, i32_w]; rw [c8b0]) | skip)
   replace H := Option.bind_eq_some_iff.mp H
   obtain ⟨t226, A90, H⟩ := H
   replace H : (if t226 = true then ((signalbenchlaw20_valid.f k a2 2000).bind fun t227 => (if t227 = true then ((signalbenchlaw20_valid.f k a3 2000).bind fun t228 => (signalbenchlaw20_ScrambleSynchronizes.j0 k a1 a2 a3 (!t228) a0_0 a0_1)) else (signalbenchlaw20_ScrambleSynchronizes.j0 k a1 a2 a3 true a0_0 a0_1))) else (signalbenchlaw20_ScrambleSynchronizes.j0 k a1 a2 a3 true a0_0 a0_1)) = some r := H
   have A9 := Aside0.mk A90
   clear A90
   by_cases c10 : t226 = true
   ·subst c10
    have H1 : ((signalbenchlaw20_valid.f k a2 2000).bind fun t227 => (if t227 = true then ((signalbenchlaw20_valid.f k a3 2000).bind fun t228 => (signalbenchlaw20_ScrambleSynchronizes.j0 k a1 a2 a3 (!t228) a0_0 a0_1)) else (signalbenchlaw20_ScrambleSynchronizes.j0 k a1 a2 a3 true a0_0 a0_1))) = some r := by rw [if_pos rfl] at H; exact H
    clear H
    have H := H1
    clear H1
    replace H := Option.bind_eq_some_iff.mp H
    obtain ⟨t227, A110, H⟩ := H
    replace H : (if t227 = true then ((signalbenchlaw20_valid.f k a3 2000).bind fun t228 => (signalbenchlaw20_ScrambleSynchronizes.j0 k a1 a2 a3 (!t228) a0_0 a0_1)) else (signalbenchlaw20_ScrambleSynchronizes.j0 k a1 a2 a3 true a0_0 a0_1)) = some r := H
    have A11 := Aside0.mk A110
    clear A110
    by_cases c12 : t227 = true
    ·subst c12
     have H1 : ((signalbenchlaw20_valid.f k a3 2000).bind fun t228 => (signalbenchlaw20_ScrambleSynchronizes.j0 k a1 a2 a3 (!t228) a0_0 a0_1)) = some r := by rw [if_pos rfl] at H; exact H
     clear H
     have H := H1
     clear H1
     replace H := Option.bind_eq_some_iff.mp H
     obtain ⟨t228, A130, H⟩ := H
     replace H : (signalbenchlaw20_ScrambleSynchronizes.j0 k a1 a2 a3 (!t228) a0_0 a0_1) = some r := H
     have A13 := Aside0.mk A130
     clear A130
     have H' := Aside0.mk H
     clear H
     have hcz14_0 : w6.cell? ⟨gb224, 0, none⟩ = some (.int .i64 a0_0) := (blk_cell BK224.out 0).trans rfl
     have hcz14_1 : w6.cell? ⟨gb224, 1, none⟩ = some (.int .i64 a0_1) := (blk_cell BK224.out 1).trans rfl
     have hfz14_0 := blk_frozen BK224.out 0
     have hfz14_1 := blk_frozen BK224.out 1
     go_wp2_with (first | ((with_reducible refine gate_callee (f := 9) rfl ?_); refine goesL_ (some 14) rfl rfl Try.func9 (by kernel_rfl) rfl #[.agg #[.int .i64 a0_0, .int .i64 a0_1]] rfl (by (try simp only [List.map_toArray, List.map_cons, List.map_nil]); first | done | rfl | (simp only [List.length_drop, List.length_take]; rfl)) ?_; (with_reducible refine (scramble_Check.calls k a0_0 a0_1 t225 _ A7.out).mono ?_); rintro e w15 ⟨rfl, hb⟩; refine ⟨_, rfl, ?_⟩; have n0_ := Aside0.mk (blkb BK224.out hb); have n1_ := Aside0.mk (below_step (hbw HB.out) hb); clear BK224; clear HB; have BK224 := n0_; have HB := n1_; clear n0_ n1_; (try clear hb); (try clear hb2); (try clear hk); (try clear hi)) | (go_at_call 24; (with_reducible refine (signalbenchlaw20_valid.calls k a1 2000 true _ A9.out).mono ?_); rintro e w' ⟨rfl, ⟨nd, rfl⟩⟩) | (go_at_call 24; (with_reducible refine (signalbenchlaw20_valid.calls k a2 2000 true _ A11.out).mono ?_); rintro e w' ⟨rfl, ⟨nd, rfl⟩⟩) | (go_at_call 24; (with_reducible refine (signalbenchlaw20_valid.calls k a3 2000 t228 _ A13.out).mono ?_); rintro e w' ⟨rfl, ⟨nd, rfl⟩⟩))
     go_meet
     case rel => exact ⟨_, (!t228), (by first | rfl | (simp; done) | (simp [*]; done)), H', ⟨by first | omega | exact Nat.le_refl _⟩, ⟨by (with_reducible repeat (first | refine blk_drewN ?_ _ | refine blk_drew ?_ | refine blk_alloc ?_ _)); exact BK224.out⟩, ⟨by repeat (first | (with_reducible first | exact HB.out | apply below_alloc | apply pw_below_drewN | apply below_drew1 | refine below_set ?_ GE224.out) | exact HB.out)⟩⟩
    ·replace c12 := Bool.eq_false_iff.mpr c12
     subst c12
     have H1 : (signalbenchlaw20_ScrambleSynchronizes.j0 k a1 a2 a3 true a0_0 a0_1) = some r := by rw [if_neg (show ¬ (false = true) by decide)] at H; exact H
     clear H
     have H := H1
     clear H1
     have H' := Aside0.mk H
     clear H
     have hcz16_0 : w6.cell? ⟨gb224, 0, none⟩ = some (.int .i64 a0_0) := (blk_cell BK224.out 0).trans rfl
     have hcz16_1 : w6.cell? ⟨gb224, 1, none⟩ = some (.int .i64 a0_1) := (blk_cell BK224.out 1).trans rfl
     have hfz16_0 := blk_frozen BK224.out 0
     have hfz16_1 := blk_frozen BK224.out 1
     go_wp2_with (first | ((with_reducible refine gate_callee (f := 9) rfl ?_); refine goesL_ (some 14) rfl rfl Try.func9 (by kernel_rfl) rfl #[.agg #[.int .i64 a0_0, .int .i64 a0_1]] rfl (by (try simp only [List.map_toArray, List.map_cons, List.map_nil]); first | done | rfl | (simp only [List.length_drop, List.length_take]; rfl)) ?_; (with_reducible refine (scramble_Check.calls k a0_0 a0_1 t225 _ A7.out).mono ?_); rintro e w17 ⟨rfl, hb⟩; refine ⟨_, rfl, ?_⟩; have n0_ := Aside0.mk (blkb BK224.out hb); have n1_ := Aside0.mk (below_step (hbw HB.out) hb); clear BK224; clear HB; have BK224 := n0_; have HB := n1_; clear n0_ n1_; (try clear hb); (try clear hb2); (try clear hk); (try clear hi)) | (go_at_call 24; (with_reducible refine (signalbenchlaw20_valid.calls k a1 2000 true _ A9.out).mono ?_); rintro e w' ⟨rfl, ⟨nd, rfl⟩⟩) | (go_at_call 24; (with_reducible refine (signalbenchlaw20_valid.calls k a2 2000 false _ A11.out).mono ?_); rintro e w' ⟨rfl, ⟨nd, rfl⟩⟩))
     go_meet
     case rel => exact ⟨_, (true), (by first | rfl | (simp; done) | (simp [*]; done)), H', ⟨by first | omega | exact Nat.le_refl _⟩, ⟨by (with_reducible repeat (first | refine blk_drewN ?_ _ | refine blk_drew ?_ | refine blk_alloc ?_ _)); exact BK224.out⟩, ⟨by repeat (first | (with_reducible first | exact HB.out | apply below_alloc | apply pw_below_drewN | apply below_drew1 | refine below_set ?_ GE224.out) | exact HB.out)⟩⟩
   ·replace c10 := Bool.eq_false_iff.mpr c10
    subst c10
    have H1 : (signalbenchlaw20_ScrambleSynchronizes.j0 k a1 a2 a3 true a0_0 a0_1) = some r := by rw [if_neg (show ¬ (false = true) by decide)] at H; exact H
    clear H
    have H := H1
    clear H1
    have H' := Aside0.mk H
    clear H
    have hcz18_0 : w6.cell? ⟨gb224, 0, none⟩ = some (.int .i64 a0_0) := (blk_cell BK224.out 0).trans rfl
    have hcz18_1 : w6.cell? ⟨gb224, 1, none⟩ = some (.int .i64 a0_1) := (blk_cell BK224.out 1).trans rfl
    have hfz18_0 := blk_frozen BK224.out 0
    have hfz18_1 := blk_frozen BK224.out 1
    go_wp2_with (first | ((with_reducible refine gate_callee (f := 9) rfl ?_); refine goesL_ (some 14) rfl rfl Try.func9 (by kernel_rfl) rfl #[.agg #[.int .i64 a0_0, .int .i64 a0_1]] rfl (by (try simp only [List.map_toArray, List.map_cons, List.map_nil]); first | done | rfl | (simp only [List.length_drop, List.length_take]; rfl)) ?_; (with_reducible refine (scramble_Check.calls k a0_0 a0_1 t225 _ A7.out).mono ?_); rintro e w19 ⟨rfl, hb⟩; refine ⟨_, rfl, ?_⟩; have n0_ := Aside0.mk (blkb BK224.out hb); have n1_ := Aside0.mk (below_step (hbw HB.out) hb); clear BK224; clear HB; have BK224 := n0_; have HB := n1_; clear n0_ n1_; (try clear hb); (try clear hb2); (try clear hk); (try clear hi)) | (go_at_call 24; (with_reducible refine (signalbenchlaw20_valid.calls k a1 2000 false _ A9.out).mono ?_); rintro e w' ⟨rfl, ⟨nd, rfl⟩⟩))
    go_meet
    case rel => exact ⟨_, (true), (by first | rfl | (simp; done) | (simp [*]; done)), H', ⟨by first | omega | exact Nat.le_refl _⟩, ⟨by (with_reducible repeat (first | refine blk_drewN ?_ _ | refine blk_drew ?_ | refine blk_alloc ?_ _)); exact BK224.out⟩, ⟨by repeat (first | (with_reducible first | exact HB.out | apply below_alloc | apply pw_below_drewN | apply below_drew1 | refine below_set ?_ GE224.out) | exact HB.out)⟩⟩
  ·rw [if_neg c8] at H
   have c8b0 : (t225 == 0) = false := beq_eq_false_iff_ne.mpr c8
   have c8b1 : (t225 != 0) = true := bne_iff_ne.mpr c8
   (first | rw [c8b0] | (simp only [i64_w, i32_w]; rw [c8b0]) | skip)
   have H' := Aside0.mk H
   clear H
   have hcz20_0 : w6.cell? ⟨gb224, 0, none⟩ = some (.int .i64 a0_0) := (blk_cell BK224.out 0).trans rfl
   have hcz20_1 : w6.cell? ⟨gb224, 1, none⟩ = some (.int .i64 a0_1) := (blk_cell BK224.out 1).trans rfl
   have hfz20_0 := blk_frozen BK224.out 0
   have hfz20_1 := blk_frozen BK224.out 1
   go_wp2_with (first | ((with_reducible refine gate_callee (f := 9) rfl ?_); refine goesL_ (some 14) rfl rfl Try.func9 (by kernel_rfl) rfl #[.agg #[.int .i64 a0_0, .int .i64 a0_1]] rfl (by (try simp only [List.map_toArray, List.map_cons, List.map_nil]); first | done | rfl | (simp only [List.length_drop, List.length_take]; rfl)) ?_; (with_reducible refine (scramble_Check.calls k a0_0 a0_1 t225 _ A7.out).mono ?_); rintro e w21 ⟨rfl, hb⟩; refine ⟨_, rfl, ?_⟩; have n0_ := Aside0.mk (blkb BK224.out hb); have n1_ := Aside0.mk (below_step (hbw HB.out) hb); clear BK224; clear HB; have BK224 := n0_; have HB := n1_; clear n0_ n1_; (try clear hb); (try clear hb2); (try clear hk); (try clear hi)))
   go_meet
   case rel => exact ⟨_, (true), (by first | rfl | (simp; done) | (simp [*]; done)), H', ⟨by first | omega | exact Nat.le_refl _⟩, ⟨by (with_reducible repeat (first | refine blk_drewN ?_ _ | refine blk_drew ?_ | refine blk_alloc ?_ _)); exact BK224.out⟩, ⟨by repeat (first | (with_reducible first | exact HB.out | apply below_alloc | apply pw_below_drewN | apply below_drew1 | refine below_set ?_ GE224.out) | exact HB.out)⟩⟩
 case rest =>
  clear HC5
  try clear c1
  try clear p2
  try clear c7
  try clear c8
  try clear c8b0
  try clear c8b1
  try clear c9
  try clear c10
  try clear c12
  try clear hcz14_0
  try clear hcz14_1
  try clear hcz16_0
  try clear hcz16_1
  try clear hcz18_0
  try clear hcz18_1
  try clear hcz20_0
  try clear hcz20_1
  try clear hfz14_0
  try clear hfz14_1
  try clear hfz16_0
  try clear hfz16_1
  try clear hfz18_0
  try clear hfz18_1
  try clear hfz20_0
  try clear hfz20_1
  obtain ⟨kq, x30_4, rfl, HA, HJ4, BK224, HB⟩ := hcut
  cases kq with
  | zero => exact absurd HA.out (by simp [signalbenchlaw20_ScrambleSynchronizes.j0])
  | succ kj4 =>
   have H := HA.out
   clear HA
   simp only [signalbenchlaw20_ScrambleSynchronizes.j0] at H
   have HC22 := Aside0.mk H
   clear H
   go_upto_if 30 with (fail)
   go_cut [] (fun wc => ∃ (kq : Nat), Aside0 (signalbenchlaw20_ScrambleSynchronizes.j1 kq a1 a2 a3 a0_0 a0_1 = some r) ∧ Aside0 (kq ≤ kj4) ∧ Aside0 (wc.heap[gb224]? = some (.cells #[.int .i64 a0_0, .int .i64 a0_1] 23 (0, 0))) ∧ Aside0 (Below w.heap.size w wc))
   case first =>
    have H := HC22.out
    clear HC22
    by_cases c23 : x30_4 = true
    ·subst c23
     have H1 : ((signalbenchlaw20_awake.f kj4).bind fun t229 => (some t229)) = some r := by rw [if_pos rfl] at H; exact H
     clear H
     have H := H1
     clear H1
     replace H := Option.bind_eq_some_iff.mp H
     obtain ⟨t229, A240, H⟩ := H
     replace H : (some t229) = some r := H
     have A24 := Aside0.mk A240
     clear A240
     obtain rfl := Option.some.inj H
     go_wp2_with (first | ((with_reducible refine gate_callee (f := 11) rfl ?_); refine goesL_ (some 31) rfl rfl Try.func11 (by kernel_rfl) rfl #[] rfl (by (try simp only [List.map_toArray, List.map_cons, List.map_nil]); first | done | rfl | (simp only [List.length_drop, List.length_take]; rfl)) ?_; (with_reducible refine (signalbenchlaw20_awake.calls kj4  t229 _ A24.out).mono ?_); rintro e w25 ⟨rfl, hb⟩; refine ⟨_, rfl, ?_⟩; have n0_ := Aside0.mk (blkb BK224.out hb); have n1_ := Aside0.mk (below_step (hbw HB.out) hb); clear BK224; clear HB; have BK224 := n0_; have HB := n1_; clear n0_ n1_; (try clear hb); (try clear hb2); (try clear hk); (try clear hi)))
     go_ret
     exact ⟨by first | rfl | (simp [errW_none, errW_some] <;> rfl) | (simp [*, errW_none, errW_some] <;> rfl), by repeat (first | (with_reducible first | exact HB.out | apply below_alloc | apply pw_below_drewN | apply below_drew1 | refine below_set ?_ GE224.out) | exact HB.out)⟩
    ·replace c23 := Bool.eq_false_iff.mpr c23
     subst c23
     have H1 : (signalbenchlaw20_ScrambleSynchronizes.j1 kj4 a1 a2 a3 a0_0 a0_1) = some r := by rw [if_neg (show ¬ (false = true) by decide)] at H; exact H
     clear H
     have H := H1
     clear H1
     have H' := Aside0.mk H
     clear H
     go_wp2
     go_meet
     case rel => exact ⟨_, H', ⟨by have := HJ4.out; first | omega | exact Nat.le_refl _⟩, ⟨by (with_reducible repeat (first | refine blk_drewN ?_ _ | refine blk_drew ?_ | refine blk_alloc ?_ _)); exact BK224.out⟩, ⟨by repeat (first | (with_reducible first | exact HB.out | apply below_alloc | apply pw_below_drewN | apply below_drew1 | refine below_set ?_ GE224.out) | exact HB.out)⟩⟩
   case rest =>
    clear HC22
    try clear c1
    try clear c2
    try clear p2
    try clear c7
    try clear c8
    try clear c8b0
    try clear c8b1
    try clear c9
    try clear c10
    try clear c11
    try clear c12
    try clear c23
    try clear hcz14_0
    try clear hcz14_1
    try clear hcz16_0
    try clear hcz16_1
    try clear hcz18_0
    try clear hcz18_1
    try clear hcz20_0
    try clear hcz20_1
    try clear hfz14_0
    try clear hfz14_1
    try clear hfz16_0
    try clear hfz16_1
    try clear hfz18_0
    try clear hfz18_1
    try clear hfz20_0
    try clear hfz20_1
    try clear p2
    obtain ⟨kq, HA, HJ21, BK224, HB⟩ := hcut
    cases kq with
    | zero => exact absurd HA.out (by simp [signalbenchlaw20_ScrambleSynchronizes.j1])
    | succ kj21 =>
     have H := HA.out
     clear HA
     simp only [signalbenchlaw20_ScrambleSynchronizes.j1] at H
     obtain ⟨y230, hy230⟩ : ∃ y_ : List (S46), y_ = (([(⟨0, 0, 0, a1, 0⟩ : S46), (⟨0, 0, 0, a3, 0⟩ : S46)] : List (S46))) := ⟨_, rfl⟩
     replace H : ((scramble_Encode.f kj21 a0_0 a0_1 y230).bind fun bt233 => (if bt233.2 = 0 then (signalbenchlaw20_ScrambleSynchronizes.j2 kj21 a2 a3 bt233.1 ((bt233.1.length : Int) != 2) a0_0 a0_1) else (signalbenchlaw20_ScrambleSynchronizes.j2 kj21 a2 a3 bt233.1 true a0_0 a0_1))) = some r := by first | (rw [hy230]; with_reducible exact H) | (have H2_ := (Option.bind_some _ _).symm.trans H; rw [hy230]; with_reducible exact H2_) | (have H2_ := (Option.bind_some _ _).symm.trans H; with_reducible exact H2_) | with_reducible exact H | (rw [hy230]; exact H) | exact H
     have Ny230 := Aside0.mk hy230
     clear hy230
     replace H := Option.bind_eq_some_iff.mp H
     obtain ⟨⟨t233, t236⟩, A260, H⟩ := H
     replace H : (if t236 = 0 then (signalbenchlaw20_ScrambleSynchronizes.j2 kj21 a2 a3 t233 ((t233.length : Int) != 2) a0_0 a0_1) else (signalbenchlaw20_ScrambleSynchronizes.j2 kj21 a2 a3 t233 true a0_0 a0_1)) = some r := H
     have A26 := Aside0.mk A260
     clear A260
     have HC27 := Aside0.mk H
     clear H
     have hcz28_0 : wc.cell? ⟨gb224, 0, none⟩ = some (.int .i64 a0_0) := (blk_cell BK224.out 0).trans rfl
     have hcz28_1 : wc.cell? ⟨gb224, 1, none⟩ = some (.int .i64 a0_1) := (blk_cell BK224.out 1).trans rfl
     have hfz28_0 := blk_frozen BK224.out 0
     have hfz28_1 := blk_frozen BK224.out 1
     go_upto_region 4 with (first | ((with_reducible refine gate_dst (N := 38) rfl ?_); (try (refine gate_guard (by rfl) ?_; dsimp only)); refine Kd.R_lit k46 _ 46 ?hg (N := 38) ?hd (xs := ([(⟨0, 0, 0, a1, 0⟩ : S46), (⟨0, 0, 0, a3, 0⟩ : S46)] : List (S46))) (inner := [.int .i64 0, .int .i64 0, .int .i64 0, .string a1, .int .i64 0, .int .i64 0, .int .i64 0, .int .i64 0, .string a3, .int .i64 0]) (ok := fun _ => True) (okp := fun _ => True) ?hr ?hp (fun _ hk => hk) trivial (Below.refl _ _) (Nat.le_refl _) (by simp) ?_; (case hd => rfl); (case hg => rfl); (case hr => first | (go_simp; done) | (go_simp; rfl)); (case hp => exact (Reps.c5 (show Kd.M k46 _ _ _ (⟨0, 0, 0, a1, 0⟩ : S46) [.int .i64 0, .int .i64 0, .int .i64 0, .string a1, .int .i64 0] from (k46_mkM _ _ _ (⟨0, 0, 0, a1, 0⟩ : S46) )) (Reps.c5 (show Kd.M k46 _ _ _ (⟨0, 0, 0, a3, 0⟩ : S46) [.int .i64 0, .int .i64 0, .int .i64 0, .string a3, .int .i64 0] from (k46_mkM _ _ _ (⟨0, 0, 0, a3, 0⟩ : S46) )) (Reps.none _ _)))); intro v231 w29 ho30 hb hg_ hnew_; clear hg_ hnew_; (first | rw [← Ny230.out] at ho30 | (simp only [Int.reduceToNat] at ho30; rw [← Ny230.out] at ho30)); have n0_ := Aside0.mk (Kd.R_lower ho30 (below_size (hbw HB.out))); have n1_ := Aside0.mk (blkb BK224.out hb); have n2_ := Aside0.mk (below_step (hbw HB.out) hb); clear BK224; clear HB; have HO232 := n0_; have BK224 := n1_; have HB := n2_; clear n0_ n1_ n2_; clear hb ho30; obtain ⟨Ao31, co31, eo31⟩ := Kd.R_slice HO232.out; subst eo31) | ((with_reducible refine gate_callee (f := 13) rfl ?_); refine goesL_ (some 39) rfl rfl Try.func13 (by kernel_rfl) rfl #[.agg #[.int .i64 a0_0, .int .i64 a0_1], .slice Ao31 y230.length co31] rfl (by (try simp only [List.map_toArray, List.map_cons, List.map_nil]); first | done | rfl | (simp only [List.length_drop, List.length_take]; rfl)) ?_; (with_reducible refine (scramble_Encode.calls kj21 a0_0 a0_1 _ _ y230 t233 t236 _ ?side1 ?side2 A26.out).mono ?_); (case side1 => repeat (first | exact (Kd.R_reads' HO232.out).2.2 | (with_reducible refine Kd.C_alloc ?_ _) | (with_reducible refine Kd.C_drewN ?_ _) | (with_reducible refine Kd.C_drew ?_))); (case side2 => exact (Kd.R_reads' HO232.out).2.1); rintro e w32 ⟨v234, rfl, ho0, hb⟩; refine ⟨_, rfl, ?_⟩; have n0_ := Aside0.mk (Kd.R_elder' (rkw HO232.out) (Kd.R_base ho0) hb); have n1_ := Aside0.mk (Kd.R_lower (Kd.R_new' ho0 (Kd.R_lt (rkw HO232.out))) (below_size (hbw HB.out))); have n2_ := Aside0.mk (blkb BK224.out hb); have n3_ := Aside0.mk (below_step (hbw HB.out) hb); clear HO232; clear BK224; clear HB; have HO232 := n0_; have HO235 := n1_; have BK224 := n2_; have HB := n3_; clear n0_ n1_ n2_ n3_; (try clear hb); (try clear hb2); (try clear hk); (try clear hi); (try clear ho0)))
     (try simp only [Act.put, List.setIfInBounds_toArray, List.set_cons_zero, List.set_cons_succ])
     go_cut [48] (fun v48 wc => ∃ (kq : Nat) (x48_26 : Bool), v48 = .bool x48_26 ∧ Aside0 (signalbenchlaw20_ScrambleSynchronizes.j2 kq a2 a3 t233 x48_26 a0_0 a0_1 = some r) ∧ Aside0 (kq ≤ kj21) ∧ Aside0 (Kd.R k46 46 wc w.heap.size (fun _ => True) v234 t233) ∧ Aside0 (wc.heap[gb224]? = some (.cells #[.int .i64 a0_0, .int .i64 a0_1] 23 (0, 0))) ∧ Aside0 (Below w.heap.size w wc))
     case first =>
      have H := HC27.out
      clear HC27
      by_cases c33 : t236 = 0
      ·rw [if_pos c33] at H
       have c33b0 : (t236 == 0) = true := beq_iff_eq.mpr c33
       have c33b1 : (t236 != 0) = false := bne_eq_false_iff_eq.mpr c33
       clear c33
       (first | rw [c33b0] | (simp only [i64_w, i32_w]; rw [c33b0]) | skip)
       have H' := Aside0.mk H
       clear H
       obtain ⟨Ao34, co34, eo34⟩ := Kd.R_slice HO235.out
       subst eo34
       go_wp2
       go_meet
       case rel => exact ⟨_, (((t233.length : Int) != 2)), (by first | rfl | (simp; done) | (simp [*]; done)), H', ⟨by have := HJ4.out; have := HJ21.out; first | omega | exact Nat.le_refl _⟩, ⟨by (with_reducible repeat (first | apply Kd.R_alloc | apply Kd.R_drewN | apply Kd.R_drew)); exact Kd.R_mono HO235.out (fun _ hk => trivial)⟩, ⟨by (with_reducible repeat (first | refine blk_drewN ?_ _ | refine blk_drew ?_ | refine blk_alloc ?_ _)); exact BK224.out⟩, ⟨by repeat (first | (with_reducible first | exact HB.out | apply below_alloc | apply pw_below_drewN | apply below_drew1 | refine below_set ?_ GE224.out) | exact HB.out)⟩⟩
      ·rw [if_neg c33] at H
       have c33b0 : (t236 == 0) = false := beq_eq_false_iff_ne.mpr c33
       have c33b1 : (t236 != 0) = true := bne_iff_ne.mpr c33
       (first | rw [c33b0] | (simp only [i64_w, i32_w]; rw [c33b0]) | skip)
       have H' := Aside0.mk H
       clear H
       go_wp2
       go_meet
       case rel => exact ⟨_, (true), (by first | rfl | (simp; done) | (simp [*]; done)), H', ⟨by have := HJ4.out; have := HJ21.out; first | omega | exact Nat.le_refl _⟩, ⟨by (with_reducible repeat (first | apply Kd.R_alloc | apply Kd.R_drewN | apply Kd.R_drew)); exact Kd.R_mono HO235.out (fun _ hk => trivial)⟩, ⟨by (with_reducible repeat (first | refine blk_drewN ?_ _ | refine blk_drew ?_ | refine blk_alloc ?_ _)); exact BK224.out⟩, ⟨by repeat (first | (with_reducible first | exact HB.out | apply below_alloc | apply pw_below_drewN | apply below_drew1 | refine below_set ?_ GE224.out) | exact HB.out)⟩⟩
     case rest =>
      clear HC27
      try clear c1
      try clear c2
      try clear p2
      try clear c3
      try clear c5
      try clear c7
      try clear c8
      try clear c8b0
      try clear c8b1
      try clear c9
      try clear c10
      try clear c11
      try clear c12
      try clear c13
      try clear c23
      try clear c33
      try clear c33b0
      try clear c33b1
      try clear hcz14_0
      try clear hcz14_1
      try clear hcz16_0
      try clear hcz16_1
      try clear hcz18_0
      try clear hcz18_1
      try clear hcz20_0
      try clear hcz20_1
      try clear hcz28_0
      try clear hcz28_1
      try clear hfz14_0
      try clear hfz14_1
      try clear hfz16_0
      try clear hfz16_1
      try clear hfz18_0
      try clear hfz18_1
      try clear hfz20_0
      try clear hfz20_1
      try clear hfz28_0
      try clear hfz28_1
      try clear p2
      obtain ⟨kq, x48_26, rfl, HA, HJ26, HO_9, BK224, HB⟩ := hcut
      cases kq with
      | zero => exact absurd HA.out (by simp [signalbenchlaw20_ScrambleSynchronizes.j2])
      | succ kj26 =>
       have H := HA.out
       clear HA
       simp only [signalbenchlaw20_ScrambleSynchronizes.j2] at H
       have HC35 := Aside0.mk H
       clear H
       go_upto_if 48 with (fail)
       go_cut [] (fun wc => ∃ (kq : Nat), Aside0 (signalbenchlaw20_ScrambleSynchronizes.j3 kq a2 a3 t233 a0_0 a0_1 = some r) ∧ Aside0 (kq ≤ kj26) ∧ Aside0 (Kd.R k46 46 wc w.heap.size (fun _ => True) v234 t233) ∧ Aside0 (wc.heap[gb224]? = some (.cells #[.int .i64 a0_0, .int .i64 a0_1] 23 (0, 0))) ∧ Aside0 (Below w.heap.size w wc))
       case first =>
        have H := HC35.out
        clear HC35
        by_cases c36 : x48_26 = true
        ·subst c36
         have H1 : (some false) = some r := by rw [if_pos rfl] at H; exact H
         clear H
         have H := H1
         clear H1
         obtain rfl := Option.some.inj H
         go_wp2
         go_ret
         exact ⟨by first | rfl | (simp [errW_none, errW_some] <;> rfl) | (simp [*, errW_none, errW_some] <;> rfl), by repeat (first | (with_reducible first | exact HB.out | apply below_alloc | apply pw_below_drewN | apply below_drew1 | refine below_set ?_ GE224.out) | exact HB.out)⟩
        ·replace c36 := Bool.eq_false_iff.mpr c36
         subst c36
         have H1 : (signalbenchlaw20_ScrambleSynchronizes.j3 kj26 a2 a3 t233 a0_0 a0_1) = some r := by rw [if_neg (show ¬ (false = true) by decide)] at H; exact H
         clear H
         have H := H1
         clear H1
         have H' := Aside0.mk H
         clear H
         go_wp2
         go_meet
         case rel => exact ⟨_, H', ⟨by have := HJ4.out; have := HJ21.out; have := HJ26.out; first | omega | exact Nat.le_refl _⟩, ⟨by (with_reducible repeat (first | apply Kd.R_alloc | apply Kd.R_drewN | apply Kd.R_drew)); exact HO_9.out⟩, ⟨by (with_reducible repeat (first | refine blk_drewN ?_ _ | refine blk_drew ?_ | refine blk_alloc ?_ _)); exact BK224.out⟩, ⟨by repeat (first | (with_reducible first | exact HB.out | apply below_alloc | apply pw_below_drewN | apply below_drew1 | refine below_set ?_ GE224.out) | exact HB.out)⟩⟩
       case rest =>
        clear HC35
        try clear c1
        try clear c2
        try clear p2
        try clear c3
        try clear c5
        try clear c7
        try clear c8
        try clear c8b0
        try clear c8b1
        try clear c9
        try clear c10
        try clear c11
        try clear c12
        try clear c13
        try clear c23
        try clear c33
        try clear c33b0
        try clear c33b1
        try clear c36
        try clear hcz14_0
        try clear hcz14_1
        try clear hcz16_0
        try clear hcz16_1
        try clear hcz18_0
        try clear hcz18_1
        try clear hcz20_0
        try clear hcz20_1
        try clear hcz28_0
        try clear hcz28_1
        try clear hfz14_0
        try clear hfz14_1
        try clear hfz16_0
        try clear hfz16_1
        try clear hfz18_0
        try clear hfz18_1
        try clear hfz20_0
        try clear hfz20_1
        try clear hfz28_0
        try clear hfz28_1
        try clear p2
        obtain ⟨kq, HA, HJ34, HO_9, BK224, HB⟩ := hcut
        cases kq with
        | zero => exact absurd HA.out (by simp [signalbenchlaw20_ScrambleSynchronizes.j3])
        | succ kj34 =>
         have H := HA.out
         clear HA
         simp only [signalbenchlaw20_ScrambleSynchronizes.j3] at H
         by_cases c37 : 1 < (t233.length : Int)
         ·rw [if_pos c37] at H
          have c37b0 : decide (1 < (t233.length : Int)) = true := decide_eq_true c37
          have c37b1 : decide (1 < t233.length) = true := decide_eq_true (by omega)
          clear c37
          by_cases c38 : a2.size + ((rd_T46 t233 1).f3).size ≤ 9223372036854775807
          ·rw [if_pos c38] at H
           have c38b0 := eq_true c38
           have c38b1 : decide (a2.size + ((rd_T46 t233 1).f3).size ≤ 9223372036854775807) = true := decide_eq_true c38
           try have c38b2 : (9223372036854775807 < a2.size + ((rd_T46 t233 1).f3).size) = False := eq_false (Nat.not_lt.2 c38)
           replace H := Option.bind_eq_some_iff.mp H
           obtain ⟨t238, A390, H⟩ := H
           replace H : ((scramble_Decode.f kj34 a0_0 a0_1 t238).bind fun t241 => ((signalbenchlaw20_told.f kj34 t241).bind fun t244 => (if (t244.size : Int) = (wrap64 ((a2.size : Int) + (a3.size : Int))) then (signalbenchlaw20_ScrambleSynchronizes.j4 kj34 a2 a3 t244 a0_0 a0_1) else (some false)))) = some r := H
           have A39 := Aside0.mk A390
           clear A390
           replace H := Option.bind_eq_some_iff.mp H
           obtain ⟨t241, A400, H⟩ := H
           replace H : ((signalbenchlaw20_told.f kj34 t241).bind fun t244 => (if (t244.size : Int) = (wrap64 ((a2.size : Int) + (a3.size : Int))) then (signalbenchlaw20_ScrambleSynchronizes.j4 kj34 a2 a3 t244 a0_0 a0_1) else (some false))) = some r := H
           have A40 := Aside0.mk A400
           clear A400
           replace H := Option.bind_eq_some_iff.mp H
           obtain ⟨t244, A410, H⟩ := H
           replace H : (if (t244.size : Int) = (wrap64 ((a2.size : Int) + (a3.size : Int))) then (signalbenchlaw20_ScrambleSynchronizes.j4 kj34 a2 a3 t244 a0_0 a0_1) else (some false)) = some r := H
           have A41 := Aside0.mk A410
           clear A410
           have HC42 := Aside0.mk H
           clear H
           try go_wp2
           have n0_ := Aside0.mk (Kd.R_drew HO_9.out)
           have n1_ := Aside0.mk (blk_drew BK224.out)
           have n2_ := Aside0.mk (below_drew1 HB.out)
           clear HO_9
           clear BK224
           clear HB
           have HO_9 := n0_
           have BK224 := n1_
           have HB := n2_
           clear n0_ n1_ n2_
           obtain ⟨Ao44, co44, eo44⟩ := Kd.R_slice HO_9.out
           (first | subst eo44 | (injection eo44 with f1_ f2_ f3_; have f4_ := f1_.symm; have f5_ := f3_.symm; clear f1_ f2_ f3_; subst f4_; subst f5_))
           have p237 : 0 ≤ (1 : Int) := (by omega)
           have q237 : 1 < (t233.length : Int) := of_decide_eq_true (by first | (with_reducible assumption) | assumption)
           obtain ⟨ad237, e237, hx237_0, hx237_1, hx237_2, hx237_3, hx237_4⟩ := at_T46 (Kd.R_reads' HO_9.out).2.2 1 p237 q237
           cases e237
           (try simp only [show (1 : Int).toNat = 1 from rfl, Nat.reduceMul, Nat.reduceEqDiff, Go.Addr.add, ↓reduceIte] at hx237_0)
           (try simp only [show (1 : Int).toNat = 1 from rfl, Nat.reduceMul, Nat.reduceEqDiff, Go.Addr.add, ↓reduceIte] at hx237_1)
           (try simp only [show (1 : Int).toNat = 1 from rfl, Nat.reduceMul, Nat.reduceEqDiff, Go.Addr.add, ↓reduceIte] at hx237_2)
           (try simp only [show (1 : Int).toNat = 1 from rfl, Nat.reduceMul, Nat.reduceEqDiff, Go.Addr.add, ↓reduceIte] at hx237_3)
           (try simp only [show (1 : Int).toNat = 1 from rfl, Nat.reduceMul, Nat.reduceEqDiff, Go.Addr.add, ↓reduceIte] at hx237_4)
           have qi237 : (1 < t233.length) = True := eq_true (by omega)
           (try rw [show ((1 : Int)).toNat = 1 from rfl] at hx237_0)
           (try rw [show 1 * 5 = 5 from rfl] at hx237_0)
           (try rw [show ((1 : Int)).toNat = 1 from rfl] at hx237_1)
           (try rw [show 1 * 5 = 5 from rfl] at hx237_1)
           (try rw [show ((1 : Int)).toNat = 1 from rfl] at hx237_2)
           (try rw [show 1 * 5 = 5 from rfl] at hx237_2)
           (try rw [show ((1 : Int)).toNat = 1 from rfl] at hx237_3)
           (try rw [show 1 * 5 = 5 from rfl] at hx237_3)
           (try rw [show ((1 : Int)).toNat = 1 from rfl] at hx237_4)
           (try rw [show 1 * 5 = 5 from rfl] at hx237_4)
           replace p237 := eq_true p237
           replace q237 := eq_true q237
           refine start_ (n := 11) (S := fun w' => w'.cell? ⟨gb224, 0, none⟩ = some (.int .i64 a0_0) ∧ w'.cell? ⟨gb224, 1, none⟩ = some (.int .i64 a0_1) ∧ w'.cell? ⟨ad237.block, ad237.off + 5, none⟩ = some (.int .i64 ((rd_T46 t233 1).f0)) ∧ w'.cell? ⟨ad237.block, ad237.off + 5 + 1, none⟩ = some (.int .i64 ((rd_T46 t233 1).f1)) ∧ w'.cell? ⟨ad237.block, ad237.off + 5 + 2, none⟩ = some (.int .i64 ((rd_T46 t233 1).f2)) ∧ w'.cell? ⟨ad237.block, ad237.off + 5 + 3, none⟩ = some (.string ((rd_T46 t233 1).f3)) ∧ w'.cell? ⟨ad237.block, ad237.off + 5 + 4, none⟩ = some (.int .i64 ((rd_T46 t233 1).f4))) (ds := []) #[false, false, false, false, false, false, false, false, false, false, false] (by kernel_rfl) rfl rfl ⟨(blk_cell BK224.out 0).trans rfl, (blk_cell BK224.out 1).trans rfl, hx237_0, hx237_1, hx237_2, hx237_3, hx237_4⟩ (fun hHeld => ?_); refine with_tabW signalbenchlaw20_ScrambleSynchronizes.tab6 signalbenchlaw20_ScrambleSynchronizes.bits6 (fun HT_ HW_ => ?_)
           generalize wc.drew = w43 at HO_9 BK224 HB hx237_0 hx237_1 hx237_2 hx237_3 hx237_4 hHeld ⊢
           refine pstep 1 (some 50) #[false, true, false, false, false, false, false, false, false, false, false] HT_.out ?_
           refine pstep 2 (some 51) #[false, true, true, false, false, false, false, false, false, false, false] HT_.out ?_
           refine pstep 3 (some 52) #[false, true, true, true, false, false, false, false, false, false, false] HT_.out ?_
           refine pstep 4 (some 53) #[false, true, true, true, true, false, false, false, false, false, false] HT_.out ?_
           refine take_ (i := 0) (N := some 49) (v := ?_) (a' := ?_) #[true, true, true, true, true, false, false, false, false, false, false] rfl rfl (take_ofW HT_.out HW_.out (by kernel_rfl)) (fun _ _ _ h => h) (Or.inl ⟨by rfl, ?_⟩) hHeld ?_ ?_
           rotate_left
           ·rintro w' ⟨s0, s1, s2, s3, s4, s5, s6⟩
            go_simp
            with_reducible rfl
           rotate_left
           ·simp only [Act.put, nrm]
            rfl
           refine take_ (i := 5) (N := some 54) (v := ?_) (a' := ?_) #[true, true, true, true, true, true, false, false, false, false, false] rfl rfl (take_ofW HT_.out HW_.out (by kernel_rfl)) (fun _ _ _ h => h) (Or.inl ⟨by rfl, ?_⟩) hHeld ?_ ?_
           rotate_left
           ·rintro w' ⟨s0, s1, s2, s3, s4, s5, s6⟩
            go_simp
            with_reducible rfl
           rotate_left
           ·simp only [Act.put, nrm]
            rfl
           refine pstep 6 (some 55) #[true, true, true, true, true, true, true, false, false, false, false] HT_.out ?_
           refine one_ (i := 7) (N := some 56) #[true, true, true, true, true, true, true, true, false, false, false] rfl rfl (one_of HT_.out (by kernel_rfl)) (by decide) (fun K hK => ?_)
           refine goes_ Try.func23 (by kernel_rfl) rfl #[.string (a2 ++ ((rd_T46 t233 1).f3))] (by rfl) rfl rfl (by (try simp only [List.map_toArray, List.map_cons, List.map_nil]); first | done | rfl | (simp only [List.length_drop, List.length_take]; rfl)) ?_
           with_reducible refine (signalbenchlaw20_bits.calls kj34 (a2 ++ ((rd_T46 t233 1).f3)) t238 _ A39.out).mono ?_
           rintro e w45 ⟨v239, rfl, ho0, hb⟩
           have HS2_ := (hb.cell (World.block_lt_of_cell? _ _ (hHeld.2.2.1))).trans (hHeld.2.2.1)
           have HS3_ := (hb.cell (World.block_lt_of_cell? _ _ (hHeld.2.2.2.1))).trans (hHeld.2.2.2.1)
           have HS4_ := (hb.cell (World.block_lt_of_cell? _ _ (hHeld.2.2.2.2.1))).trans (hHeld.2.2.2.2.1)
           have HS5_ := (hb.cell (World.block_lt_of_cell? _ _ (hHeld.2.2.2.2.2.1))).trans (hHeld.2.2.2.2.2.1)
           have HS6_ := (hb.cell (World.block_lt_of_cell? _ _ (hHeld.2.2.2.2.2.2))).trans (hHeld.2.2.2.2.2.2)
           refine ⟨_, rfl, ?_⟩
           have n0_ := Aside0.mk (Kd.R_below (rkw HO_9.out) hb)
           have n1_ := Aside0.mk (Kd.R_lower ho0 (below_size (hbw HB.out)))
           have n2_ := Aside0.mk (blkb BK224.out hb)
           have n3_ := Aside0.mk (below_step (hbw HB.out) hb)
           clear HO_9
           clear BK224
           clear HB
           have HO_9 := n0_
           have HO240 := n1_
           have BK224 := n2_
           have HB := n3_
           clear n0_ n1_ n2_ n3_
           (try clear hb)
           (try clear hb2)
           (try clear hk)
           (try clear hi)
           (try clear ho0)
           obtain ⟨Ao46, co46, eo46⟩ := Kd.R_slice HO240.out
           (first | subst eo46 | (injection eo46 with f1_ f2_ f3_; have f4_ := f1_.symm; have f5_ := f3_.symm; clear f1_ f2_ f3_; subst f4_; subst f5_))
           refine hK.out _ _ ⟨(blk_cell BK224.out 0).trans rfl, (blk_cell BK224.out 1).trans rfl, HS2_, HS3_, HS4_, HS5_, HS6_⟩ (fun hHeld => ?_)
           clear hK K
           refine norm_ (a' := ?_) ?_ ?_
           rotate_left
           ·show Act.put _ (some 56) _ = _
            simp only [Act.put, nrm]
            rfl
           refine one_ (i := 8) (N := some 57) #[true, true, true, true, true, true, true, true, true, false, false] rfl rfl (one_of HT_.out (by kernel_rfl)) (by decide) (fun K hK => ?_)
           refine goes_ Try.func16 (by kernel_rfl) rfl #[.agg #[.int .i64 a0_0, .int .i64 a0_1], .slice Ao46 t238.length co46] (by rfl) rfl rfl (by (try simp only [List.map_toArray, List.map_cons, List.map_nil]); first | done | rfl | (simp only [List.length_drop, List.length_take]; rfl)) ?_
           with_reducible refine (scramble_Decode.calls kj34 a0_0 a0_1 _ _ t238 t241 _ ?side1 ?side2 A40.out).mono ?_
           (case side1 => repeat (first | exact (Kd.R_reads' HO240.out).2.2 | (with_reducible refine Kd.C_alloc ?_ _) | (with_reducible refine Kd.C_drewN ?_ _) | (with_reducible refine Kd.C_drew ?_)))
           (case side2 => exact (Kd.R_reads' HO240.out).2.1)
           rintro e w47 ⟨v242, rfl, ho0, hb⟩
           have HS2_ := (hb.cell (World.block_lt_of_cell? _ _ (hHeld.2.2.1))).trans (hHeld.2.2.1)
           have HS3_ := (hb.cell (World.block_lt_of_cell? _ _ (hHeld.2.2.2.1))).trans (hHeld.2.2.2.1)
           have HS4_ := (hb.cell (World.block_lt_of_cell? _ _ (hHeld.2.2.2.2.1))).trans (hHeld.2.2.2.2.1)
           have HS5_ := (hb.cell (World.block_lt_of_cell? _ _ (hHeld.2.2.2.2.2.1))).trans (hHeld.2.2.2.2.2.1)
           have HS6_ := (hb.cell (World.block_lt_of_cell? _ _ (hHeld.2.2.2.2.2.2))).trans (hHeld.2.2.2.2.2.2)
           refine ⟨_, rfl, ?_⟩
           have n0_ := Aside0.mk (Kd.R_below (rkw HO_9.out) hb)
           have n1_ := Aside0.mk (Kd.R_elder' (rkw HO240.out) (Kd.R_base ho0) hb)
           have n2_ := Aside0.mk (Kd.R_lower (Kd.R_new' ho0 (Kd.R_lt (rkw HO240.out))) (below_size (hbw HB.out)))
           have n3_ := Aside0.mk (blkb BK224.out hb)
           have n4_ := Aside0.mk (below_step (hbw HB.out) hb)
           clear HO_9
           clear HO240
           clear BK224
           clear HB
           have HO_9 := n0_
           have HO240 := n1_
           have HO243 := n2_
           have BK224 := n3_
           have HB := n4_
           clear n0_ n1_ n2_ n3_ n4_
           (try clear hb)
           (try clear hb2)
           (try clear hk)
           (try clear hi)
           (try clear ho0)
           obtain ⟨Ao48, co48, eo48⟩ := Kd.R_slice HO243.out
           (first | subst eo48 | (injection eo48 with f1_ f2_ f3_; have f4_ := f1_.symm; have f5_ := f3_.symm; clear f1_ f2_ f3_; subst f4_; subst f5_))
           refine hK.out _ _ ⟨(blk_cell BK224.out 0).trans rfl, (blk_cell BK224.out 1).trans rfl, HS2_, HS3_, HS4_, HS5_, HS6_⟩ (fun hHeld => ?_)
           clear hK K
           refine norm_ (a' := ?_) ?_ ?_
           rotate_left
           ·show Act.put _ (some 57) _ = _
            simp only [Act.put, nrm]
            rfl
           refine one_ (i := 9) (N := some 58) #[true, true, true, true, true, true, true, true, true, true, false] rfl rfl (one_of HT_.out (by kernel_rfl)) (by decide) (fun K hK => ?_)
           refine goes_ Try.func25 (by kernel_rfl) rfl #[.slice Ao48 t241.length co48] (by rfl) rfl rfl (by (try simp only [List.map_toArray, List.map_cons, List.map_nil]); first | done | rfl | (simp only [List.length_drop, List.length_take]; rfl)) ?_
           with_reducible refine (signalbenchlaw20_told.calls kj34 _ _ t241 t244 _ ?side1 ?side2 A41.out).mono ?_
           (case side1 => repeat (first | exact (Kd.R_reads' HO243.out).2.2 | (with_reducible refine Kd.C_alloc ?_ _) | (with_reducible refine Kd.C_drewN ?_ _) | (with_reducible refine Kd.C_drew ?_)))
           (case side2 => exact (Kd.R_reads' HO243.out).2.1)
           rintro e w49 ⟨rfl, hb⟩
           have HS2_ := (hb.cell (World.block_lt_of_cell? _ _ (hHeld.2.2.1))).trans (hHeld.2.2.1)
           have HS3_ := (hb.cell (World.block_lt_of_cell? _ _ (hHeld.2.2.2.1))).trans (hHeld.2.2.2.1)
           have HS4_ := (hb.cell (World.block_lt_of_cell? _ _ (hHeld.2.2.2.2.1))).trans (hHeld.2.2.2.2.1)
           have HS5_ := (hb.cell (World.block_lt_of_cell? _ _ (hHeld.2.2.2.2.2.1))).trans (hHeld.2.2.2.2.2.1)
           have HS6_ := (hb.cell (World.block_lt_of_cell? _ _ (hHeld.2.2.2.2.2.2))).trans (hHeld.2.2.2.2.2.2)
           refine ⟨_, rfl, ?_⟩
           have n0_ := Aside0.mk (Kd.R_below (rkw HO_9.out) hb)
           have n1_ := Aside0.mk (Kd.R_below (rkw HO240.out) hb)
           have n2_ := Aside0.mk (Kd.R_below (rkw HO243.out) hb)
           have n3_ := Aside0.mk (blkb BK224.out hb)
           have n4_ := Aside0.mk (below_step (hbw HB.out) hb)
           clear HO_9
           clear HO240
           clear HO243
           clear BK224
           clear HB
           have HO_9 := n0_
           have HO240 := n1_
           have HO243 := n2_
           have BK224 := n3_
           have HB := n4_
           clear n0_ n1_ n2_ n3_ n4_
           (try clear hb)
           (try clear hb2)
           (try clear hk)
           (try clear hi)
           refine hK.out _ _ ⟨(blk_cell BK224.out 0).trans rfl, (blk_cell BK224.out 1).trans rfl, HS2_, HS3_, HS4_, HS5_, HS6_⟩ (fun hHeld => ?_)
           clear hK K
           refine norm_ (a' := ?_) ?_ ?_
           rotate_left
           ·show Act.put _ (some 58) _ = _
            simp only [Act.put, nrm]
            rfl
           refine pstep 10 (some 11) #[true, true, true, true, true, true, true, true, true, true, true] HT_.out ?_
           refine done_ (done_of HT_.out (by kernel_rfl)) ?_
           go_upto_if 66 with (fail)
           go_cut [] (fun wc => ∃ (kq : Nat), Aside0 (signalbenchlaw20_ScrambleSynchronizes.j4 kq a2 a3 t244 a0_0 a0_1 = some r) ∧ Aside0 (kq ≤ kj34) ∧ Aside0 (wc.heap[gb224]? = some (.cells #[.int .i64 a0_0, .int .i64 a0_1] 23 (0, 0))) ∧ Aside0 (Below w.heap.size w wc))
           case first =>
            have H := HC42.out
            clear HC42
            by_cases c50 : (t244.size : Int) = (wrap64 ((a2.size : Int) + (a3.size : Int)))
            ·rw [if_pos c50] at H
             have c50b0 : ((t244.size : Int) == (wrap64 ((a2.size : Int) + (a3.size : Int)))) = true := beq_iff_eq.mpr c50
             have c50b1 : ((t244.size : Int) != (wrap64 ((a2.size : Int) + (a3.size : Int)))) = false := bne_eq_false_iff_eq.mpr c50
             clear c50
             (first | rw [c50b0] | (simp only [i64_w, i32_w]; rw [c50b0]) | skip)
             have H' := Aside0.mk H
             clear H
             go_wp2
             go_meet
             case rel => exact ⟨_, H', ⟨by have := HJ4.out; have := HJ21.out; have := HJ26.out; have := HJ34.out; first | omega | exact Nat.le_refl _⟩, ⟨by (with_reducible repeat (first | refine blk_drewN ?_ _ | refine blk_drew ?_ | refine blk_alloc ?_ _)); exact BK224.out⟩, ⟨by repeat (first | (with_reducible first | exact HB.out | apply below_alloc | apply pw_below_drewN | apply below_drew1 | refine below_set ?_ GE224.out) | exact HB.out)⟩⟩
            ·rw [if_neg c50] at H
             have c50b0 : ((t244.size : Int) == (wrap64 ((a2.size : Int) + (a3.size : Int)))) = false := beq_eq_false_iff_ne.mpr c50
             have c50b1 : ((t244.size : Int) != (wrap64 ((a2.size : Int) + (a3.size : Int)))) = true := bne_iff_ne.mpr c50
             (first | rw [c50b0] | (simp only [i64_w, i32_w]; rw [c50b0]) | skip)
             obtain rfl := Option.some.inj H
             go_wp2
             go_ret
             exact ⟨by first | rfl | (simp [errW_none, errW_some] <;> rfl) | (simp [*, errW_none, errW_some] <;> rfl), by repeat (first | (with_reducible first | exact HB.out | apply below_alloc | apply pw_below_drewN | apply below_drew1 | refine below_set ?_ GE224.out) | exact HB.out)⟩
           case rest =>
            clear HC42
            try clear c1
            try clear c2
            try clear p2
            try clear q2
            try clear hx2
            try clear qi2
            try clear c3
            try clear c5
            try clear p6
            try clear c7
            try clear c8
            try clear c8b0
            try clear c8b1
            try clear c9
            try clear c10
            try clear c11
            try clear c12
            try clear c13
            try clear c16
            try clear c23
            try clear p23
            try clear q23
            try clear hx23
            try clear qi23
            try clear c25
            try clear c33
            try clear c33b0
            try clear c33b1
            try clear c36
            try clear c37
            try clear c37b0
            try clear c37b1
            try clear c38
            try clear c38b0
            try clear c38b1
            try clear c38b2
            try clear c50
            try clear c50b0
            try clear c50b1
            try clear hcz14_0
            try clear hcz14_1
            try clear hcz16_0
            try clear hcz16_1
            try clear hcz18_0
            try clear hcz18_1
            try clear hcz20_0
            try clear hcz20_1
            try clear hcz28_0
            try clear hcz28_1
            try clear hfz14_0
            try clear hfz14_1
            try clear hfz16_0
            try clear hfz16_1
            try clear hfz18_0
            try clear hfz18_1
            try clear hfz20_0
            try clear hfz20_1
            try clear hfz28_0
            try clear hfz28_1
            try clear hx237_0
            try clear hx237_1
            try clear hx237_2
            try clear hx237_3
            try clear hx237_4
            try clear p2
            try clear p237
            try clear q237
            obtain ⟨kq, HA, HJ41, BK224, HB⟩ := hcut
            cases kq with
            | zero => exact absurd HA.out (by simp [signalbenchlaw20_ScrambleSynchronizes.j4])
            | succ kj41 =>
             have H := HA.out
             clear HA
             simp only [signalbenchlaw20_ScrambleSynchronizes.j4] at H
             have H' := Aside0.mk H
             clear H
             have hcz51_0 : wc.cell? ⟨gb224, 0, none⟩ = some (.int .i64 a0_0) := (blk_cell BK224.out 0).trans rfl
             have hcz51_1 : wc.cell? ⟨gb224, 1, none⟩ = some (.int .i64 a0_1) := (blk_cell BK224.out 1).trans rfl
             have hfz51_0 := blk_frozen BK224.out 0
             have hfz51_1 := blk_frozen BK224.out 1
             go_wp2
             go_loopg [12] kj41 (fun kq v12 w' => ∃ (x12_6 : Int), v12 = .int .i64 x12_6 ∧ Aside0 (signalbenchlaw20_ScrambleSynchronizes.l0 kq a2 a3 t244 x12_6 = some r) ∧ Aside0 (kq ≤ kj41) ∧ Aside0 (w'.heap[gb224]? = some (.cells #[.int .i64 a0_0, .int .i64 a0_1] 23 (0, 0))) ∧ Aside0 (Below w.heap.size w w'))
             case atStart => exact ⟨(a0_0), (by first | rfl | (simp; done) | (simp [*]; done)), H', ⟨Nat.le_refl _⟩, ⟨by (with_reducible repeat (first | refine blk_drewN ?_ _ | refine blk_drew ?_ | refine blk_alloc ?_ _)); exact BK224.out⟩, ⟨by repeat (first | (with_reducible first | exact HB.out | apply below_alloc | apply pw_below_drewN | apply below_drew1 | refine below_set ?_ GE224.out) | exact HB.out)⟩⟩
             case round =>
              clear H'
              try clear c1
              try clear c2
              try clear p2
              try clear q2
              try clear hx2
              try clear qi2
              try clear c3
              try clear c5
              try clear p6
              try clear c7
              try clear c8
              try clear c8b0
              try clear c8b1
              try clear c9
              try clear c10
              try clear c11
              try clear c12
              try clear c13
              try clear c16
              try clear c23
              try clear p23
              try clear q23
              try clear hx23
              try clear qi23
              try clear c25
              try clear c33
              try clear c33b0
              try clear c33b1
              try clear c36
              try clear c37
              try clear c37b0
              try clear c37b1
              try clear c38
              try clear c38b0
              try clear c38b1
              try clear c38b2
              try clear c50
              try clear c50b0
              try clear c50b1
              try clear hcz14_0
              try clear hcz14_1
              try clear hcz16_0
              try clear hcz16_1
              try clear hcz18_0
              try clear hcz18_1
              try clear hcz20_0
              try clear hcz20_1
              try clear hcz28_0
              try clear hcz28_1
              try clear hcz51_0
              try clear hcz51_1
              try clear hfz14_0
              try clear hfz14_1
              try clear hfz16_0
              try clear hfz16_1
              try clear hfz18_0
              try clear hfz18_1
              try clear hfz20_0
              try clear hfz20_1
              try clear hfz28_0
              try clear hfz28_1
              try clear hfz51_0
              try clear hfz51_1
              try clear hx237_0
              try clear hx237_1
              try clear hx237_2
              try clear hx237_3
              try clear hx237_4
              try clear p2
              try clear p23
              try clear p237
              try clear p6
              try clear q2
              try clear q23
              try clear q237
              obtain ⟨x12_6, rfl, HA, HK6, BK224, HB⟩ := hrel
              cases gk with
              | zero => exact absurd HA.out (by simp [signalbenchlaw20_ScrambleSynchronizes.l0])
              | succ k6 =>
               have H := HA.out
               clear HA
               simp only [signalbenchlaw20_ScrambleSynchronizes.l0] at H
               by_cases c52 : x12_6 < (a3.size : Int)
               ·rw [if_pos c52] at H
                have c52b0 : decide (x12_6 < (a3.size : Int)) = true := decide_eq_true c52
                clear c52
                obtain ⟨ji53, hji53⟩ : ∃ j_ : Int, (wrap64 ((a2.size : Int) + x12_6)) = j_ := ⟨_, rfl⟩
                replace H : (if 0 ≤ (ji53) then (if (ji53) < (t244.size : Int) then (if 0 ≤ x12_6 then (if (bt t244 (ji53)) = (bt a3 x12_6) then (signalbenchlaw20_ScrambleSynchronizes.l0 k6 a2 a3 t244 (wrap64 (x12_6 + 1))) else (some false)) else (none)) else (none)) else (none)) = some r := by first | (rw [hji53] at H; exact H) | (simp only [hji53] at H ⊢; exact H)
                have hji53w : (IntKind.i64.wrap ((a2.size : Int) + x12_6)) = ji53 := (i64_w _).trans hji53
                by_cases c54 : 0 ≤ (ji53)
                ·rw [if_pos c54] at H
                 have c54b0 : decide (0 ≤ (ji53)) = true := decide_eq_true c54
                 clear c54
                 by_cases c55 : (ji53) < (t244.size : Int)
                 ·rw [if_pos c55] at H
                  have c55b0 : decide ((ji53) < (t244.size : Int)) = true := decide_eq_true c55
                  clear c55
                  by_cases c57 : 0 ≤ x12_6
                  ·rw [if_pos c57] at H
                   have c57b0 : decide (0 ≤ x12_6) = true := decide_eq_true c57
                   clear c57
                   by_cases c59 : (bt t244 (ji53)) = (bt a3 x12_6)
                   ·rw [if_pos c59] at H
                    have c59b0 : ((bt t244 (ji53)) == (bt a3 x12_6)) = true := beq_iff_eq.mpr c59
                    have c59b1 : ((bt t244 (ji53)) != (bt a3 x12_6)) = false := bne_eq_false_iff_eq.mpr c59
                    clear c59
                    have H' := Aside0.mk H
                    clear H
                    try go_wp2
                    have n0_ := Aside0.mk (blk_drew BK224.out)
                    have n1_ := Aside0.mk (below_drew1 HB.out)
                    clear BK224
                    clear HB
                    have BK224 := n0_
                    have HB := n1_
                    clear n0_ n1_
                    have p56 : 0 ≤ ((ji53) : Int) := of_decide_eq_true (by first | (with_reducible assumption) | assumption)
                    have q56 : (ji53) < (t244.size : Int) := of_decide_eq_true (by first | (with_reducible assumption) | assumption)
                    have hx56 := bt_at t244 (ji53)
                    replace p56 := eq_true p56
                    replace q56 := eq_true q56
                    have p58 : 0 ≤ (x12_6 : Int) := of_decide_eq_true (by first | (with_reducible assumption) | assumption)
                    have q58 : x12_6 < (a3.size : Int) := of_decide_eq_true (by first | (with_reducible assumption) | assumption)
                    have hx58 := bt_at a3 x12_6
                    replace p58 := eq_true p58
                    replace q58 := eq_true q58
                    refine start_ (n := 10) (S := fun w' => True) (ds := []) #[false, false, false, false, false, false, false, false, false, false] (by kernel_rfl) rfl rfl trivial (fun hHeld => ?_); refine with_tabW signalbenchlaw20_ScrambleSynchronizes.tab12 signalbenchlaw20_ScrambleSynchronizes.bits12 (fun HT_ HW_ => ?_)
                    generalize wr.drew = w60 at BK224 HB hHeld ⊢
                    refine pstep 0 (some 75) #[true, false, false, false, false, false, false, false, false, false] HT_.out ?_
                    refine pstep 1 (some 76) #[true, true, false, false, false, false, false, false, false, false] HT_.out ?_
                    refine pstep 2 (some 77) #[true, true, true, false, false, false, false, false, false, false] HT_.out ?_
                    refine pstep 3 (some 78) #[true, true, true, true, false, false, false, false, false, false] HT_.out ?_
                    refine pstep 4 (some 79) #[true, true, true, true, true, false, false, false, false, false] HT_.out ?_
                    refine pstep 6 (some 81) #[true, true, true, true, true, false, true, false, false, false] HT_.out ?_
                    refine pstep 7 (some 82) #[true, true, true, true, true, false, true, true, false, false] HT_.out ?_
                    refine take_ (i := 5) (N := some 80) (v := ?_) (a' := ?_) #[true, true, true, true, true, true, true, true, false, false] rfl rfl (take_ofW HT_.out HW_.out (by kernel_rfl)) (fun _ _ _ h => h) (Or.inl ⟨by rfl, ?_⟩) hHeld ?_ ?_
                    rotate_left
                    ·intro w' _
                     go_simp
                     with_reducible rfl
                    rotate_left
                    ·simp only [Act.put, nrm]
                     rfl
                    refine take_ (i := 8) (N := some 83) (v := ?_) (a' := ?_) #[true, true, true, true, true, true, true, true, true, false] rfl rfl (take_ofW HT_.out HW_.out (by kernel_rfl)) (fun _ _ _ h => h) (Or.inl ⟨by rfl, ?_⟩) hHeld ?_ ?_
                    rotate_left
                    ·intro w' _
                     go_simp
                     with_reducible rfl
                    rotate_left
                    ·simp only [Act.put, nrm]
                     rfl
                    refine pstep 9 (some 84) #[true, true, true, true, true, true, true, true, true, true] HT_.out ?_
                    refine done_ (done_of HT_.out (by kernel_rfl)) ?_
                    try go_wp2
                    go_roundg k6
                    case measure => have := HJ4.out; have := HJ21.out; have := HJ26.out; have := HJ34.out; have := HJ41.out; have := HK6.out; omega
                    case rel => exact ⟨(wrap64 (x12_6 + 1)), (by first | rfl | (simp; done) | (simp [*]; done)), H', ⟨by have := HJ4.out; have := HJ21.out; have := HJ26.out; have := HJ34.out; have := HJ41.out; have := HK6.out; omega⟩, ⟨by (with_reducible repeat (first | refine blk_drewN ?_ _ | refine blk_drew ?_ | refine blk_alloc ?_ _)); exact BK224.out⟩, ⟨by repeat (first | (with_reducible first | exact HB.out | apply below_alloc | apply pw_below_drewN | apply below_drew1 | refine below_set ?_ GE224.out) | exact HB.out)⟩⟩
                   ·rw [if_neg c59] at H
                    have c59b0 : ((bt t244 (ji53)) == (bt a3 x12_6)) = false := beq_eq_false_iff_ne.mpr c59
                    have c59b1 : ((bt t244 (ji53)) != (bt a3 x12_6)) = true := bne_iff_ne.mpr c59
                    obtain rfl := Option.some.inj H
                    try go_wp2
                    have n0_ := Aside0.mk (blk_drew BK224.out)
                    have n1_ := Aside0.mk (below_drew1 HB.out)
                    clear BK224
                    clear HB
                    have BK224 := n0_
                    have HB := n1_
                    clear n0_ n1_
                    have p56 : 0 ≤ ((ji53) : Int) := of_decide_eq_true (by first | (with_reducible assumption) | assumption)
                    have q56 : (ji53) < (t244.size : Int) := of_decide_eq_true (by first | (with_reducible assumption) | assumption)
                    have hx56 := bt_at t244 (ji53)
                    replace p56 := eq_true p56
                    replace q56 := eq_true q56
                    have p58 : 0 ≤ (x12_6 : Int) := of_decide_eq_true (by first | (with_reducible assumption) | assumption)
                    have q58 : x12_6 < (a3.size : Int) := of_decide_eq_true (by first | (with_reducible assumption) | assumption)
                    have hx58 := bt_at a3 x12_6
                    replace p58 := eq_true p58
                    replace q58 := eq_true q58
                    refine start_ (n := 10) (S := fun w' => True) (ds := []) #[false, false, false, false, false, false, false, false, false, false] (by kernel_rfl) rfl rfl trivial (fun hHeld => ?_); refine with_tabW signalbenchlaw20_ScrambleSynchronizes.tab12 signalbenchlaw20_ScrambleSynchronizes.bits12 (fun HT_ HW_ => ?_)
                    generalize wr.drew = w61 at BK224 HB hHeld ⊢
                    refine pstep 0 (some 75) #[true, false, false, false, false, false, false, false, false, false] HT_.out ?_
                    refine pstep 1 (some 76) #[true, true, false, false, false, false, false, false, false, false] HT_.out ?_
                    refine pstep 2 (some 77) #[true, true, true, false, false, false, false, false, false, false] HT_.out ?_
                    refine pstep 3 (some 78) #[true, true, true, true, false, false, false, false, false, false] HT_.out ?_
                    refine pstep 4 (some 79) #[true, true, true, true, true, false, false, false, false, false] HT_.out ?_
                    refine pstep 6 (some 81) #[true, true, true, true, true, false, true, false, false, false] HT_.out ?_
                    refine pstep 7 (some 82) #[true, true, true, true, true, false, true, true, false, false] HT_.out ?_
                    refine take_ (i := 5) (N := some 80) (v := ?_) (a' := ?_) #[true, true, true, true, true, true, true, true, false, false] rfl rfl (take_ofW HT_.out HW_.out (by kernel_rfl)) (fun _ _ _ h => h) (Or.inl ⟨by rfl, ?_⟩) hHeld ?_ ?_
                    rotate_left
                    ·intro w' _
                     go_simp
                     with_reducible rfl
                    rotate_left
                    ·simp only [Act.put, nrm]
                     rfl
                    refine take_ (i := 8) (N := some 83) (v := ?_) (a' := ?_) #[true, true, true, true, true, true, true, true, true, false] rfl rfl (take_ofW HT_.out HW_.out (by kernel_rfl)) (fun _ _ _ h => h) (Or.inl ⟨by rfl, ?_⟩) hHeld ?_ ?_
                    rotate_left
                    ·intro w' _
                     go_simp
                     with_reducible rfl
                    rotate_left
                    ·simp only [Act.put, nrm]
                     rfl
                    refine pstep 9 (some 84) #[true, true, true, true, true, true, true, true, true, true] HT_.out ?_
                    refine done_ (done_of HT_.out (by kernel_rfl)) ?_
                    try go_wp2
                    go_ret
                    exact ⟨by first | rfl | (simp [errW_none, errW_some] <;> rfl) | (simp only [← hji53]; first | rfl | (simp [errW_none, errW_some] <;> rfl)) | (simp [*, errW_none, errW_some] <;> rfl), by repeat (first | (with_reducible first | exact HB.out | apply below_alloc | apply pw_below_drewN | apply below_drew1 | refine below_set ?_ GE224.out) | exact HB.out)⟩
                  ·rw [if_neg c57] at H
                   exact absurd H (by simp)
                 ·rw [if_neg c55] at H
                  exact absurd H (by simp)
                ·rw [if_neg c54] at H
                 exact absurd H (by simp)
               ·rw [if_neg c52] at H
                have c52b0 : decide (x12_6 < (a3.size : Int)) = false := decide_eq_false c52
                clear c52
                replace H := Option.bind_eq_some_iff.mp H
                obtain ⟨t245, A620, H⟩ := H
                replace H : (some t245) = some r := H
                have A62 := Aside0.mk A620
                clear A620
                obtain rfl := Option.some.inj H
                go_wp2_with (first | ((with_reducible refine gate_callee (f := 11) rfl ?_); refine goesL_ (some 85) rfl rfl Try.func11 (by kernel_rfl) rfl #[] rfl (by (try simp only [List.map_toArray, List.map_cons, List.map_nil]); first | done | rfl | (simp only [List.length_drop, List.length_take]; rfl)) ?_; (with_reducible refine (signalbenchlaw20_awake.calls k6  t245 _ A62.out).mono ?_); rintro e w63 ⟨rfl, hb⟩; refine ⟨_, rfl, ?_⟩; have n0_ := Aside0.mk (blkb BK224.out hb); have n1_ := Aside0.mk (below_step (hbw HB.out) hb); clear BK224; clear HB; have BK224 := n0_; have HB := n1_; clear n0_ n1_; (try clear hb); (try clear hb2); (try clear hk); (try clear hi)))
                go_ret
                exact ⟨by first | rfl | (simp [errW_none, errW_some] <;> rfl) | (simp [*, errW_none, errW_some] <;> rfl), by repeat (first | (with_reducible first | exact HB.out | apply below_alloc | apply pw_below_drewN | apply below_drew1 | refine below_set ?_ GE224.out) | exact HB.out)⟩
          ·rw [if_neg c38] at H
           exact absurd H (by simp)
         ·rw [if_neg c37] at H
          exact absurd H (by simp)

/-- THE ONE PURE STATEMENT of signalbenchlaw20_ScrambleSynchronizes: yours. -/
def signalbenchlaw20_ScrambleSynchronizes.Pure : Prop := ∀ (a0_0 : Int) (a0_1 : Int) (a1 : ByteArray) (a2 : ByteArray) (a3 : ByteArray), (Lit.int .i64 a0_0).wf = true → (Lit.int .i64 a0_1).wf = true → a1.size ≤ 140737488351232 → a2.size ≤ 140737488351232 → a3.size ≤ 140737488351232 → ∃ k, signalbenchlaw20_ScrambleSynchronizes.f k a0_0 a0_1 a1 a2 a3 = some true
theorem signalbenchlaw20_ScrambleSynchronizes.walk (P : signalbenchlaw20_ScrambleSynchronizes.Pure) (a0_0 : Int) (a0_1 : Int) (a1 : ByteArray) (a2 : ByteArray) (a3 : ByteArray) (w : World)  (w0_ : (Lit.int .i64 a0_0).wf = true) (w1_ : (Lit.int .i64 a0_1).wf = true) (w2_ : a1.size ≤ 140737488351232) (w3_ : a2.size ≤ 140737488351232) (w4_ : a3.size ≤ 140737488351232) :
  Calls Try.prog 7 #[.agg #[.int .i64 a0_0, .int .i64 a0_1], .string a1, .string a2, .string a3] w fun e w' => e = .returned (.bool true) ∧ Below w.heap.size w w' := by
 obtain ⟨k, h⟩ := P a0_0 a0_1 a1 a2 a3 w0_ w1_ w2_ w3_ w4_
 refine (signalbenchlaw20_ScrambleSynchronizes.calls k a0_0 a0_1 a1 a2 a3 true w  h).mono ?_
 rintro e w' ⟨rfl, hd⟩
 exact ⟨rfl, hd⟩

end Go.Proofs.Ytgcifmaefoeobaa.PScrambleSynchronizes
