-- Written by a program of this session (wip/tools/pr.py), which calls the kit's print with changes of its own.
import Derived.Test.YtmalhgidhieamaaDoorIss
import Derived.Test.YtmalhgidhieamaaDoorPModbusDecodesx0
import Derived.Test.YtmalhgidhieamaaDoorPModbusDecodesx11
import Derived.Test.YtmalhgidhieamaaDoorPModbusDecodesx12
import Derived.Test.YtmalhgidhieamaaDoorPModbusDecodesx13
namespace Go.Proofs.YtmalhgidhieamaaDoor.PModbusDecodes
open Go.RowKit Go.Proofs.YtmalhgidhieamaaDoorW.PrintWords Go.Proofs.YtmalhgidhieamaaDoorW.PrintLast Go.Proofs.YtmalhgidhieamaaDoorW.PrintMore
attribute [local go_sem] max2_int min2_int max_two min_two max_three min_three max_four min_four   -- for this text's walks alone
set_option linter.unusedVariables false
set_option linter.unusedSimpArgs false

/-! ### signalbenchref30_Step: function 12 -/
mutual
def signalbenchref30_Step.j0 : Nat → Bool → Int → Int → Int → Int → Int → Int → Int → Int → ByteArray → Int → Int → Int → Int → Int → ByteArray → Int → Option (Int × Int × Int × Int × Int × Int × Int × ByteArray × (List (S32)))
 | 0, _, _, _, _, _, _, _, _, _, _, _, _, _, _, _, _, _ => none
 | k + 1, x17, x263000, x264000, x264001, x264002, x264003, x264004, x264005, x264006, x264007, x265000, x265001, x265002, x265003, x265004, x265005, x265006 => if x17 = true then (some (x264000, x264001, x264002, x264003, x264004, x264005, x264006, x264007, ([] : List (S32)))) else (signalbenchref30_Step.j1 k x263000 x264000 x264001 x264002 x264003 x264004 x264005 x264006 x264007 x265000 x265001 x265002 x265003 x265004 x265005 x265006)
def signalbenchref30_Step.j1 : Nat → Int → Int → Int → Int → Int → Int → Int → Int → ByteArray → Int → Int → Int → Int → Int → ByteArray → Int → Option (Int × Int × Int × Int × Int × Int × Int × ByteArray × (List (S32)))
 | 0, _, _, _, _, _, _, _, _, _, _, _, _, _, _, _, _ => none
 | k + 1, x263000, x264000, x264001, x264002, x264003, x264004, x264005, x264006, x264007, x265000, x265001, x265002, x265003, x265004, x265005, x265006 => (some (([] : List (S32)) : List (S32))).bind fun y268 => (if x265006 = 0 then (if x264000 = 1 then (signalbenchref30_Step.j2 k y268 (decide ((wrap64 (x265001 - x264004)) > x263000)) x264000 x264001 x264002 x264003 x264004 x264005 x264006 x264007 x265000 x265001 x265002 x265003 x265004 x265005 x265006) else (signalbenchref30_Step.j2 k y268 false x264000 x264001 x264002 x264003 x264004 x264005 x264006 x264007 x265000 x265001 x265002 x265003 x265004 x265005 x265006)) else (if x264000 = 1 then (if y268.length < 2199023255552 then (some (0, x265002, 0, 0, 0, 0, x265001, (⟨#[]⟩ : ByteArray), (y268 ++ [(⟨5, x264002, x265001, 0, 0, (⟨#[]⟩ : ByteArray), 7⟩ : S32)]))) else (none)) else (some (0, x265002, 0, 0, 0, 0, x265001, (⟨#[]⟩ : ByteArray), y268))))
def signalbenchref30_Step.j2 : Nat → List (S32) → Bool → Int → Int → Int → Int → Int → Int → Int → ByteArray → Int → Int → Int → Int → Int → ByteArray → Int → Option (Int × Int × Int × Int × Int × Int × Int × ByteArray × (List (S32)))
 | 0, _, _, _, _, _, _, _, _, _, _, _, _, _, _, _, _, _ => none
 | k + 1, x8, x52, x264000, x264001, x264002, x264003, x264004, x264005, x264006, x264007, x265000, x265001, x265002, x265003, x265004, x265005, x265006 => if x52 = true then ((signalbenchref30_frame.f k x264000 x264001 x264002 x264003 x264004 x264005 x264006 x264007).bind fun bt274 => (if x8.length < 2199023255552 then (signalbenchref30_Step.j3 k (x8 ++ [(⟨bt274.1, bt274.2.1, bt274.2.2.1, bt274.2.2.2.1, bt274.2.2.2.2.1, bt274.2.2.2.2.2.1, bt274.2.2.2.2.2.2⟩ : S32)]) 0 0 0 0 0 0 0 (⟨#[]⟩ : ByteArray) x265000 x265001 x265002 x265003 x265004 x265005 x265006) else (none))) else (signalbenchref30_Step.j3 k x8 x264000 x264001 x264002 x264003 x264004 x264005 x264006 x264007 x265000 x265001 x265002 x265003 x265004 x265005 x265006)
def signalbenchref30_Step.j3 : Nat → List (S32) → Int → Int → Int → Int → Int → Int → Int → ByteArray → Int → Int → Int → Int → Int → ByteArray → Int → Option (Int × Int × Int × Int × Int × Int × Int × ByteArray × (List (S32)))
 | 0, _, _, _, _, _, _, _, _, _, _, _, _, _, _, _, _ => none
 | k + 1, x8, x264000, x264001, x264002, x264003, x264004, x264005, x264006, x264007, x265000, x265001, x265002, x265003, x265004, x265005, x265006 => if x264000 = 0 then (if 0 < 4101 then ((some (([(x265003) % 256] : List Int) : List Int)).bind fun y284 => (if 0 + (strOfNums y284).size ≤ 9223372036854775807 then (some (1, x265002, x265001, 0, x265002, 0, x265001, (⟨#[]⟩ : ByteArray) ++ (strOfNums y284), x8)) else (none))) else (some (1, x265002, x265001, 0, x265002, 0, x265001, (⟨#[]⟩ : ByteArray), x8))) else (if (x264007.size : Int) < 4101 then ((some (([(x265003) % 256] : List Int) : List Int)).bind fun y287 => (if x264007.size + (strOfNums y287).size ≤ 9223372036854775807 then (some (x264000, x265002, x264002, x264003, x265002, x264005, x265001, x264007 ++ (strOfNums y287), x8)) else (none))) else (some (x264000, x265002, x264002, x264003, x265002, x264005, x265001, x264007, x8)))
end
def signalbenchref30_Step.f (k : Nat) (a0_0 : Int) (a1_0 : Int) (a1_1 : Int) (a1_2 : Int) (a1_3 : Int) (a1_4 : Int) (a1_5 : Int) (a1_6 : Int) (a1_7 : ByteArray) (a2_0 : Int) (a2_1 : Int) (a2_2 : Int) (a2_3 : Int) (a2_4 : Int) (a2_5 : ByteArray) (a2_6 : Int) : Option (Int × Int × Int × Int × Int × Int × Int × ByteArray × (List (S32))) := (signalbenchref30_Check.f a0_0).bind fun t266 => (if t266 = 0 then ((signalbenchref30_accepted.f a1_0 a1_1 a1_2 a1_3 a1_4 a1_5 a1_6 a1_7 a2_0 a2_1 a2_2 a2_3 a2_4 a2_5 a2_6).bind fun t267 => (signalbenchref30_Step.j0 k (!t267) a0_0 a1_0 a1_1 a1_2 a1_3 a1_4 a1_5 a1_6 a1_7 a2_0 a2_1 a2_2 a2_3 a2_4 a2_5 a2_6)) else (signalbenchref30_Step.j0 k true a0_0 a1_0 a1_1 a1_2 a1_3 a1_4 a1_5 a1_6 a1_7 a2_0 a2_1 a2_2 a2_3 a2_4 a2_5 a2_6))
theorem signalbenchref30_Step.mono_l : ∀ k, (∀ y0 y1 y2 y3 y4 y5 y6 y7 y8 y9 y10 y11 y12 y13 y14 y15 y16, LeO (signalbenchref30_Step.j0 k y0 y1 y2 y3 y4 y5 y6 y7 y8 y9 y10 y11 y12 y13 y14 y15 y16) (signalbenchref30_Step.j0 (k + 1) y0 y1 y2 y3 y4 y5 y6 y7 y8 y9 y10 y11 y12 y13 y14 y15 y16)) ∧ (∀ y0 y1 y2 y3 y4 y5 y6 y7 y8 y9 y10 y11 y12 y13 y14 y15, LeO (signalbenchref30_Step.j1 k y0 y1 y2 y3 y4 y5 y6 y7 y8 y9 y10 y11 y12 y13 y14 y15) (signalbenchref30_Step.j1 (k + 1) y0 y1 y2 y3 y4 y5 y6 y7 y8 y9 y10 y11 y12 y13 y14 y15)) ∧ (∀ y0 y1 y2 y3 y4 y5 y6 y7 y8 y9 y10 y11 y12 y13 y14 y15 y16, LeO (signalbenchref30_Step.j2 k y0 y1 y2 y3 y4 y5 y6 y7 y8 y9 y10 y11 y12 y13 y14 y15 y16) (signalbenchref30_Step.j2 (k + 1) y0 y1 y2 y3 y4 y5 y6 y7 y8 y9 y10 y11 y12 y13 y14 y15 y16)) ∧ (∀ y0 y1 y2 y3 y4 y5 y6 y7 y8 y9 y10 y11 y12 y13 y14 y15, LeO (signalbenchref30_Step.j3 k y0 y1 y2 y3 y4 y5 y6 y7 y8 y9 y10 y11 y12 y13 y14 y15) (signalbenchref30_Step.j3 (k + 1) y0 y1 y2 y3 y4 y5 y6 y7 y8 y9 y10 y11 y12 y13 y14 y15))
 | 0 => ⟨fun _ _ _ _ _ _ _ _ _ _ _ _ _ _ _ _ _ r h => by simp [signalbenchref30_Step.j0] at h, fun _ _ _ _ _ _ _ _ _ _ _ _ _ _ _ _ r h => by simp [signalbenchref30_Step.j1] at h, fun _ _ _ _ _ _ _ _ _ _ _ _ _ _ _ _ _ r h => by simp [signalbenchref30_Step.j2] at h, fun _ _ _ _ _ _ _ _ _ _ _ _ _ _ _ _ r h => by simp [signalbenchref30_Step.j3] at h⟩
 | k + 1 => by
  obtain ⟨ih0, ih1, ih2, ih3⟩ := signalbenchref30_Step.mono_l k
  refine ⟨?_, ?_, ?_, ?_⟩
  ·intro y0 y1 y2 y3 y4 y5 y6 y7 y8 y9 y10 y11 y12 y13 y14 y15 y16
   unfold signalbenchref30_Step.j0
   repeat' first
   | (with_reducible exact ih0 _ _ _ _ _ _ _ _ _ _ _ _ _ _ _ _ _)
   | (with_reducible exact ih1 _ _ _ _ _ _ _ _ _ _ _ _ _ _ _ _)
   | (with_reducible exact ih2 _ _ _ _ _ _ _ _ _ _ _ _ _ _ _ _ _)
   | (with_reducible exact ih3 _ _ _ _ _ _ _ _ _ _ _ _ _ _ _ _)
   | (with_reducible exact signalbenchref30_frame.mono _ _ _ _ _ _ _ _ _)
   | (with_reducible exact LeO.refl _)
   | (with_reducible exact LeO.none _)
   | (with_reducible refine LeO.ite ?_ ?_)
   | (with_reducible refine LeO.bind ?_ (fun _ => ?_))
   | exact ih0 _ _ _ _ _ _ _ _ _ _ _ _ _ _ _ _ _
   | exact ih1 _ _ _ _ _ _ _ _ _ _ _ _ _ _ _ _
   | exact ih2 _ _ _ _ _ _ _ _ _ _ _ _ _ _ _ _ _
   | exact ih3 _ _ _ _ _ _ _ _ _ _ _ _ _ _ _ _
   | exact signalbenchref30_frame.mono _ _ _ _ _ _ _ _ _
   | exact LeO.none _
   | refine LeO.ite ?_ ?_
   | refine LeO.bind ?_ (fun _ => ?_)
  ·intro y0 y1 y2 y3 y4 y5 y6 y7 y8 y9 y10 y11 y12 y13 y14 y15
   unfold signalbenchref30_Step.j1
   repeat' first
   | (with_reducible exact ih0 _ _ _ _ _ _ _ _ _ _ _ _ _ _ _ _ _)
   | (with_reducible exact ih1 _ _ _ _ _ _ _ _ _ _ _ _ _ _ _ _)
   | (with_reducible exact ih2 _ _ _ _ _ _ _ _ _ _ _ _ _ _ _ _ _)
   | (with_reducible exact ih3 _ _ _ _ _ _ _ _ _ _ _ _ _ _ _ _)
   | (with_reducible exact signalbenchref30_frame.mono _ _ _ _ _ _ _ _ _)
   | (with_reducible exact LeO.refl _)
   | (with_reducible exact LeO.none _)
   | (with_reducible refine LeO.ite ?_ ?_)
   | (with_reducible refine LeO.bind ?_ (fun _ => ?_))
   | exact ih0 _ _ _ _ _ _ _ _ _ _ _ _ _ _ _ _ _
   | exact ih1 _ _ _ _ _ _ _ _ _ _ _ _ _ _ _ _
   | exact ih2 _ _ _ _ _ _ _ _ _ _ _ _ _ _ _ _ _
   | exact ih3 _ _ _ _ _ _ _ _ _ _ _ _ _ _ _ _
   | exact signalbenchref30_frame.mono _ _ _ _ _ _ _ _ _
   | exact LeO.none _
   | refine LeO.ite ?_ ?_
   | refine LeO.bind ?_ (fun _ => ?_)
  ·intro y0 y1 y2 y3 y4 y5 y6 y7 y8 y9 y10 y11 y12 y13 y14 y15 y16
   unfold signalbenchref30_Step.j2
   repeat' first
   | (with_reducible exact ih0 _ _ _ _ _ _ _ _ _ _ _ _ _ _ _ _ _)
   | (with_reducible exact ih1 _ _ _ _ _ _ _ _ _ _ _ _ _ _ _ _)
   | (with_reducible exact ih2 _ _ _ _ _ _ _ _ _ _ _ _ _ _ _ _ _)
   | (with_reducible exact ih3 _ _ _ _ _ _ _ _ _ _ _ _ _ _ _ _)
   | (with_reducible exact signalbenchref30_frame.mono _ _ _ _ _ _ _ _ _)
   | (with_reducible exact LeO.refl _)
   | (with_reducible exact LeO.none _)
   | (with_reducible refine LeO.ite ?_ ?_)
   | (with_reducible refine LeO.bind ?_ (fun _ => ?_))
   | exact ih0 _ _ _ _ _ _ _ _ _ _ _ _ _ _ _ _ _
   | exact ih1 _ _ _ _ _ _ _ _ _ _ _ _ _ _ _ _
   | exact ih2 _ _ _ _ _ _ _ _ _ _ _ _ _ _ _ _ _
   | exact ih3 _ _ _ _ _ _ _ _ _ _ _ _ _ _ _ _
   | exact signalbenchref30_frame.mono _ _ _ _ _ _ _ _ _
   | exact LeO.none _
   | refine LeO.ite ?_ ?_
   | refine LeO.bind ?_ (fun _ => ?_)
  ·intro y0 y1 y2 y3 y4 y5 y6 y7 y8 y9 y10 y11 y12 y13 y14 y15
   unfold signalbenchref30_Step.j3
   repeat' first
   | (with_reducible exact ih0 _ _ _ _ _ _ _ _ _ _ _ _ _ _ _ _ _)
   | (with_reducible exact ih1 _ _ _ _ _ _ _ _ _ _ _ _ _ _ _ _)
   | (with_reducible exact ih2 _ _ _ _ _ _ _ _ _ _ _ _ _ _ _ _ _)
   | (with_reducible exact ih3 _ _ _ _ _ _ _ _ _ _ _ _ _ _ _ _)
   | (with_reducible exact signalbenchref30_frame.mono _ _ _ _ _ _ _ _ _)
   | (with_reducible exact LeO.refl _)
   | (with_reducible exact LeO.none _)
   | (with_reducible refine LeO.ite ?_ ?_)
   | (with_reducible refine LeO.bind ?_ (fun _ => ?_))
   | exact ih0 _ _ _ _ _ _ _ _ _ _ _ _ _ _ _ _ _
   | exact ih1 _ _ _ _ _ _ _ _ _ _ _ _ _ _ _ _
   | exact ih2 _ _ _ _ _ _ _ _ _ _ _ _ _ _ _ _ _
   | exact ih3 _ _ _ _ _ _ _ _ _ _ _ _ _ _ _ _
   | exact signalbenchref30_frame.mono _ _ _ _ _ _ _ _ _
   | exact LeO.none _
   | refine LeO.ite ?_ ?_
   | refine LeO.bind ?_ (fun _ => ?_)
theorem signalbenchref30_Step.mono : ∀ a0 a1 a2 a3 a4 a5 a6 a7 a8 a9 a10 a11 a12 a13 a14 a15 k, LeO (signalbenchref30_Step.f k a0 a1 a2 a3 a4 a5 a6 a7 a8 a9 a10 a11 a12 a13 a14 a15) (signalbenchref30_Step.f (k + 1) a0 a1 a2 a3 a4 a5 a6 a7 a8 a9 a10 a11 a12 a13 a14 a15) := by
 intro a0 a1 a2 a3 a4 a5 a6 a7 a8 a9 a10 a11 a12 a13 a14 a15 k
 obtain ⟨ih0, ih1, ih2, ih3⟩ := signalbenchref30_Step.mono_l k
 unfold signalbenchref30_Step.f
 repeat' first
   | (with_reducible exact ih0 _ _ _ _ _ _ _ _ _ _ _ _ _ _ _ _ _)
   | (with_reducible exact ih1 _ _ _ _ _ _ _ _ _ _ _ _ _ _ _ _)
   | (with_reducible exact ih2 _ _ _ _ _ _ _ _ _ _ _ _ _ _ _ _ _)
   | (with_reducible exact ih3 _ _ _ _ _ _ _ _ _ _ _ _ _ _ _ _)
   | (with_reducible exact signalbenchref30_frame.mono _ _ _ _ _ _ _ _ _)
   | (with_reducible exact LeO.refl _)
   | (with_reducible exact LeO.none _)
   | (with_reducible refine LeO.ite ?_ ?_)
   | (with_reducible refine LeO.bind ?_ (fun _ => ?_))
   | exact ih0 _ _ _ _ _ _ _ _ _ _ _ _ _ _ _ _ _
   | exact ih1 _ _ _ _ _ _ _ _ _ _ _ _ _ _ _ _
   | exact ih2 _ _ _ _ _ _ _ _ _ _ _ _ _ _ _ _ _
   | exact ih3 _ _ _ _ _ _ _ _ _ _ _ _ _ _ _ _
   | exact signalbenchref30_frame.mono _ _ _ _ _ _ _ _ _
   | exact LeO.none _
   | refine LeO.ite ?_ ?_
   | refine LeO.bind ?_ (fun _ => ?_)
def signalbenchref30_Step.T15 : Bool × List (List Nat × List Nat) := (true, [([], []), ([0], [0]), ([], []), ([2], [2]), ([], []), ([4], [4]), ([0, 1], []), ([6, 1, 0, 1], [1, 6]), ([0, 1, 2, 3, 6, 7], []), ([8, 3, 7, 0, 1, 2, 3, 6, 7], [3, 8]), ([0, 1, 2, 3, 4, 5, 6, 7, 8, 9], []), ([10, 5, 9, 0, 1, 2, 3, 4, 5, 6, 7, 8, 9], [5, 10])])
def signalbenchref30_Step.B15 : List Nat := [0, 1, 0, 4, 0, 16, 3, 67, 207, 463, 1023, 2047]
theorem signalbenchref30_Step.tab15 : rtab .any (opsOf Tryd.f12 15) = signalbenchref30_Step.T15 := by kernel_rfl
theorem signalbenchref30_Step.bits15 : waitsOk signalbenchref30_Step.T15.2 signalbenchref30_Step.B15 = true := by kernel_rfl
set_option maxHeartbeats 8000000 in
set_option maxRecDepth 100000 in
theorem signalbenchref30_Step.calls (k : Nat) (a0_0 : Int) (a1_0 : Int) (a1_1 : Int) (a1_2 : Int) (a1_3 : Int) (a1_4 : Int) (a1_5 : Int) (a1_6 : Int) (a1_7 : ByteArray) (a2_0 : Int) (a2_1 : Int) (a2_2 : Int) (a2_3 : Int) (a2_4 : Int) (a2_5 : ByteArray) (a2_6 : Int) (r1 : Int) (r2 : Int) (r3 : Int) (r4 : Int) (r5 : Int) (r6 : Int) (r7 : Int) (r8 : ByteArray) (r9 : List (S32)) (w : World) (h : signalbenchref30_Step.f k a0_0 a1_0 a1_1 a1_2 a1_3 a1_4 a1_5 a1_6 a1_7 a2_0 a2_1 a2_2 a2_3 a2_4 a2_5 a2_6 = some (r1, r2, r3, r4, r5, r6, r7, r8, r9)) :
  Calls Tryd.prog 12 #[.agg #[.int .i64 a0_0], .agg #[.int .i64 a1_0, .int .i64 a1_1, .int .i64 a1_2, .int .i64 a1_3, .int .i64 a1_4, .int .i64 a1_5, .int .i64 a1_6, .string a1_7], .agg #[.int .i64 a2_0, .int .i64 a2_1, .int .i64 a2_2, .int .i64 a2_3, .int .i64 a2_4, .string a2_5, .int .i64 a2_6]] w fun e w' => ∃ v8_ : Value, e = .returned (.tuple #[.agg #[.int .i64 r1, .int .i64 r2, .int .i64 r3, .int .i64 r4, .int .i64 r5, .int .i64 r6, .int .i64 r7, .string r8], v8_]) ∧ Kd.R k32 32 w' w.heap.size (fun _ => True) v8_ r9 ∧ Below w.heap.size w w' := by
 have hu23 := Tryd.underlying23; have hu27 := Tryd.underlying27; have hu32 := Tryd.underlying32; have HB := sA (Below.refl w.heap.size w); have H : ((signalbenchref30_Check.f a0_0).bind fun t266 => (if t266 = 0 then ((signalbenchref30_accepted.f a1_0 a1_1 a1_2 a1_3 a1_4 a1_5 a1_6 a1_7 a2_0 a2_1 a2_2 a2_3 a2_4 a2_5 a2_6).bind fun t267 => (signalbenchref30_Step.j0 k (!t267) a0_0 a1_0 a1_1 a1_2 a1_3 a1_4 a1_5 a1_6 a1_7 a2_0 a2_1 a2_2 a2_3 a2_4 a2_5 a2_6)) else (signalbenchref30_Step.j0 k true a0_0 a1_0 a1_1 a1_2 a1_3 a1_4 a1_5 a1_6 a1_7 a2_0 a2_1 a2_2 a2_3 a2_4 a2_5 a2_6))) = some (r1, r2, r3, r4, r5, r6, r7, r8, r9) := h; clear h; have HC4 := sA H; clear H
 go_enter Tryd.func12, Tryd.ntmps12
 go_upto_region 1 with (first | ((with_reducible refine gate_dst (N := 3) rfl ?_); refine boxK 3 #[.int .i64 a0_0] 23 ?_; intro gb262 hg w5 hbox hb; have hIS_ := isSome_set; have BK262 := sA hbox; have GW262 := bsz HB hg; have GE262 := bsz HB hg; replace HB := bst HB hb; clear hb hbox hg) | ((with_reducible refine gate_dst (N := 4) rfl ?_); refine boxK 4 #[.int .i64 a1_0, .int .i64 a1_1, .int .i64 a1_2, .int .i64 a1_3, .int .i64 a1_4, .int .i64 a1_5, .int .i64 a1_6, .string a1_7] 27 ?_; intro gb263 hg w6 hbox hb; have hIS_ := isSome_set; have BK263 := sA hbox; have GW263 := bsz HB hg; have GE263 := bsz HB hg; have NB262_263 := bnl BK262 hg; have NB263_262 := bng BK262 hg; replace BK262 := sA (blkb BK262.out hb); replace HB := bst HB hb; clear hb hbox hg) | ((with_reducible refine gate_dst (N := 5) rfl ?_); refine boxK 5 #[.int .i64 a2_0, .int .i64 a2_1, .int .i64 a2_2, .int .i64 a2_3, .int .i64 a2_4, .string a2_5, .int .i64 a2_6] 32 ?_; intro gb264 hg w7 hbox hb; have hIS_ := isSome_set; have BK264 := sA hbox; have GW264 := bsz HB hg; have GE264 := bsz HB hg; have NB262_264 := bnl BK262 hg; have NB264_262 := bng BK262 hg; have NB263_264 := bnl BK263 hg; have NB264_263 := bng BK263 hg; replace BK262 := sA (blkb BK262.out hb); replace BK263 := sA (blkb BK263.out hb); replace HB := bst HB hb; clear hb hbox hg) | ((with_reducible refine gate_dst (N := 6) rfl ?_); refine boxK 6 #[.int .i64 0, .int .i64 0, .int .i64 0, .int .i64 0, .int .i64 0, .int .i64 0, .int .i64 0, .string (⟨#[]⟩ : ByteArray)] 27 ?_; intro gb265 hg w8 hbox hb; have hIS_ := isSome_set; have BK265 := sA hbox; have GW265 := bsz HB hg; have GE265 := bsz HB hg; have NB262_265 := bnl BK262 hg; have NB265_262 := bng BK262 hg; have NB263_265 := bnl BK263 hg; have NB265_263 := bng BK263 hg; have NB264_265 := bnl BK264 hg; have NB265_264 := bng BK264 hg; replace BK262 := sA (blkb BK262.out hb); replace BK263 := sA (blkb BK263.out hb); replace BK264 := sA (blkb BK264.out hb); replace HB := bst HB hb; clear hb hbox hg))
 (try simp only [Act.put, List.setIfInBounds_toArray, List.set_cons_zero, List.set_cons_succ])
 go_cut [17] (fun v17 wc => ∃ (kq : Nat) (x17_3 : Bool), v17 = .bool x17_3 ∧ Aside0 (signalbenchref30_Step.j0 kq x17_3 a0_0 a1_0 a1_1 a1_2 a1_3 a1_4 a1_5 a1_6 a1_7 a2_0 a2_1 a2_2 a2_3 a2_4 a2_5 a2_6 = some (r1, r2, r3, r4, r5, r6, r7, r8, r9)) ∧ Aside0 (kq ≤ k) ∧ Aside0 (wc.heap[gb262]? = some (.cells #[.int .i64 a0_0] 23 (0, 0))) ∧ Aside0 (wc.heap[gb263]? = some (.cells #[.int .i64 a1_0, .int .i64 a1_1, .int .i64 a1_2, .int .i64 a1_3, .int .i64 a1_4, .int .i64 a1_5, .int .i64 a1_6, .string a1_7] 27 (0, 0))) ∧ Aside0 (wc.heap[gb264]? = some (.cells #[.int .i64 a2_0, .int .i64 a2_1, .int .i64 a2_2, .int .i64 a2_3, .int .i64 a2_4, .string a2_5, .int .i64 a2_6] 32 (0, 0))) ∧ Aside0 (wc.heap[gb265]? = some (.cells #[.int .i64 0, .int .i64 0, .int .i64 0, .int .i64 0, .int .i64 0, .int .i64 0, .int .i64 0, .string (⟨#[]⟩ : ByteArray)] 27 (0, 0))) ∧ Aside0 (Below w.heap.size w wc))
 case first =>
  have H := HC4.out; clear HC4; replace H := Option.bind_eq_some_iff.mp H; obtain ⟨t266, A90, H⟩ := H; replace H : (if t266 = 0 then ((signalbenchref30_accepted.f a1_0 a1_1 a1_2 a1_3 a1_4 a1_5 a1_6 a1_7 a2_0 a2_1 a2_2 a2_3 a2_4 a2_5 a2_6).bind fun t267 => (signalbenchref30_Step.j0 k (!t267) a0_0 a1_0 a1_1 a1_2 a1_3 a1_4 a1_5 a1_6 a1_7 a2_0 a2_1 a2_2 a2_3 a2_4 a2_5 a2_6)) else (signalbenchref30_Step.j0 k true a0_0 a1_0 a1_1 a1_2 a1_3 a1_4 a1_5 a1_6 a1_7 a2_0 a2_1 a2_2 a2_3 a2_4 a2_5 a2_6)) = some (r1, r2, r3, r4, r5, r6, r7, r8, r9) := H; have A9 := sA A90; clear A90
  by_cases c10 : t266 = 0
  ·rw [if_pos c10] at H
   have c10b0 : (t266 == 0) = true := beq_iff_eq.mpr c10; have c10b1 : (t266 != 0) = false := bne_eq_false_iff_eq.mpr c10; clear c10
   (first | rw [c10b0] | (simp only [i64_w, i32_w]; rw [c10b0]) | skip)
   replace H := Option.bind_eq_some_iff.mp H; obtain ⟨t267, A110, H⟩ := H; replace H : (signalbenchref30_Step.j0 k (!t267) a0_0 a1_0 a1_1 a1_2 a1_3 a1_4 a1_5 a1_6 a1_7 a2_0 a2_1 a2_2 a2_3 a2_4 a2_5 a2_6) = some (r1, r2, r3, r4, r5, r6, r7, r8, r9) := H; have A11 := sA A110; clear A110; have H' := sA H; clear H; have hnb12 := NB262_263.out; have hnc12 := NB263_262.out; have hnb13 := NB262_264.out; have hnc13 := NB264_262.out; have hnb14 := NB262_265.out; have hnc14 := NB265_262.out; obtain ⟨_,_⟩ := cQ1 BK262
   go_wp2_with (first | ((with_reducible refine gate_callee (f := 15) rfl ?_); refine goesK (some 10) Tryd.func15 #[.agg #[.int .i64 a0_0]] ?_; (with_reducible refine (signalbenchref30_Check.calls a0_0 t266 _ A9.out).mono ?_); rintro e w16 ⟨rfl, hb⟩; refine ⟨_, rfl, ?_⟩; replace BK262 := sA (blkb BK262.out hb); replace BK263 := sA (blkb BK263.out hb); replace BK264 := sA (blkb BK264.out hb); replace BK265 := sA (blkb BK265.out hb); replace HB := bst HB hb; (try clear hb); have hnb17 := NB263_264.out; have hnc17 := NB264_263.out; have hnb18 := NB263_265.out; have hnc18 := NB265_263.out; obtain ⟨_,_,_,_,_,_,_,_,_,_,_,_,_,_,_,_⟩ := cQ8 BK263; have hnb20 := NB264_265.out; have hnc20 := NB265_264.out; obtain ⟨_,_,_,_,_,_,_,_,_,_,_,_,_,_⟩ := cQ7 BK264) | (go_at_call 28; (with_reducible refine (signalbenchref30_accepted.calls a1_0 a1_1 a1_2 a1_3 a1_4 a1_5 a1_6 a1_7 a2_0 a2_1 a2_2 a2_3 a2_4 a2_5 a2_6 t267 _ A11.out).mono ?_); rintro e w22 ⟨rfl, hb⟩; replace BK262 := sA (blkb BK262.out hb); replace BK263 := sA (blkb BK263.out hb); replace BK264 := sA (blkb BK264.out hb); replace BK265 := sA (blkb BK265.out hb); replace HB := bst HB hb; (try clear hb)))
   go_meet
   case rel => exact ⟨_, (!t267), (by first | rfl | (simp; done) | (simp [*]; done)), H', ⟨by first | omega | exact Nat.le_refl _⟩, ⟨bkw BK262.out⟩, ⟨bkw BK263.out⟩, ⟨bkw BK264.out⟩, ⟨bkw BK265.out⟩, ⟨hbw HB.out⟩⟩
  ·rw [if_neg c10] at H
   have c10b0 : (t266 == 0) = false := beq_eq_false_iff_ne.mpr c10; have c10b1 : (t266 != 0) = true := bne_iff_ne.mpr c10
   (first | rw [c10b0] | (simp only [i64_w, i32_w]; rw [c10b0]) | skip)
   have H' := sA H; clear H; have hnb23 := NB262_263.out; have hnc23 := NB263_262.out; have hnb24 := NB262_264.out; have hnc24 := NB264_262.out; have hnb25 := NB262_265.out; have hnc25 := NB265_262.out; obtain ⟨_,_⟩ := cQ1 BK262
   go_wp2_with (first | ((with_reducible refine gate_callee (f := 15) rfl ?_); refine goesK (some 10) Tryd.func15 #[.agg #[.int .i64 a0_0]] ?_; (with_reducible refine (signalbenchref30_Check.calls a0_0 t266 _ A9.out).mono ?_); rintro e w27 ⟨rfl, hb⟩; refine ⟨_, rfl, ?_⟩; replace BK262 := sA (blkb BK262.out hb); replace BK263 := sA (blkb BK263.out hb); replace BK264 := sA (blkb BK264.out hb); replace BK265 := sA (blkb BK265.out hb); replace HB := bst HB hb; (try clear hb)))
   go_meet
   case rel => exact ⟨_, (true), (by first | rfl | (simp; done) | (simp [*]; done)), H', ⟨by first | omega | exact Nat.le_refl _⟩, ⟨bkw BK262.out⟩, ⟨bkw BK263.out⟩, ⟨bkw BK264.out⟩, ⟨bkw BK265.out⟩, ⟨hbw HB.out⟩⟩
 case rest =>
  clear HC4
  obtain ⟨kq, x17_3, rfl, HA, HJ3, BK262, BK263, BK264, BK265, HB⟩ := hcut
  cases kq with
  | zero => exact absurd HA.out (by simp [signalbenchref30_Step.j0])
  | succ kj3 =>
   have H := HA.out; clear HA
   simp only [signalbenchref30_Step.j0] at H
   have HC28 := sA H; clear H
   go_upto_if 17 with (fail)
   go_cut [] (fun wc => ∃ (kq : Nat) (x266000_27 : Int) (x266001_27 : Int) (x266002_27 : Int) (x266003_27 : Int) (x266004_27 : Int) (x266005_27 : Int) (x266006_27 : Int) (x266007_27 : ByteArray), Aside0 (signalbenchref30_Step.j1 kq a0_0 a1_0 a1_1 a1_2 a1_3 a1_4 a1_5 a1_6 a1_7 a2_0 a2_1 a2_2 a2_3 a2_4 a2_5 a2_6 = some (r1, r2, r3, r4, r5, r6, r7, r8, r9)) ∧ Aside0 (kq ≤ kj3) ∧ Aside0 (wc.heap[gb262]? = some (.cells #[.int .i64 a0_0] 23 (0, 0))) ∧ Aside0 (wc.heap[gb263]? = some (.cells #[.int .i64 a1_0, .int .i64 a1_1, .int .i64 a1_2, .int .i64 a1_3, .int .i64 a1_4, .int .i64 a1_5, .int .i64 a1_6, .string a1_7] 27 (0, 0))) ∧ Aside0 (wc.heap[gb264]? = some (.cells #[.int .i64 a2_0, .int .i64 a2_1, .int .i64 a2_2, .int .i64 a2_3, .int .i64 a2_4, .string a2_5, .int .i64 a2_6] 32 (0, 0))) ∧ Aside0 (wc.heap[gb265]? = some (.cells #[.int .i64 x266000_27, .int .i64 x266001_27, .int .i64 x266002_27, .int .i64 x266003_27, .int .i64 x266004_27, .int .i64 x266005_27, .int .i64 x266006_27, .string x266007_27] 27 (0, 0))) ∧ Aside0 (Below w.heap.size w wc))
   case first =>
    have H := HC28.out; clear HC28
    by_cases c29 : x17_3 = true
    ·subst c29
     have H1 : (some (a1_0, a1_1, a1_2, a1_3, a1_4, a1_5, a1_6, a1_7, ([] : List (S32)))) = some (r1, r2, r3, r4, r5, r6, r7, r8, r9) := by rw [if_pos rfl] at H; exact H
     clear H; have H := H1; clear H1
     simp only [Option.some.injEq, Prod.mk.injEq] at H
     obtain ⟨rfl, rfl, rfl, rfl, rfl, rfl, rfl, rfl, rfl⟩ := H; have hnb30 := NB263_262.out; have hnc30 := NB262_263.out; have hnb31 := NB263_264.out; have hnc31 := NB264_263.out; have hnb32 := NB263_265.out; have hnc32 := NB265_263.out; obtain ⟨_,_,_,_,_,_,_,_,_,_,_,_,_,_,_,_⟩ := cQ8 BK263; have hnb34 := NB265_262.out; have hnc34 := NB262_265.out; have hnb35 := NB265_264.out; have hnc35 := NB264_265.out; obtain ⟨_,_,_,_,_,_,_,_,_,_,_,_,_,_,_,_⟩ := cQ8 BK265
     go_wp2
     refine bodyPost_ret (results_ct rfl _ _ gb265 27 #[.int .i64 a1_0, .int .i64 a1_1, .int .i64 a1_2, .int .i64 a1_3, .int .i64 a1_4, .int .i64 a1_5, .int .i64 a1_6, .string a1_7] (0, 0) _ rfl (by (with_reducible repeat (first | refine blk_drewN ?_ _ | refine blk_drew ?_ | refine blk_alloc ?_ _)); refine blk_put8 (.int .i64 0) (.int .i64 0) (.int .i64 0) (.int .i64 0) (.int .i64 0) (.int .i64 0) (.int .i64 0) (.string (⟨#[]⟩ : ByteArray)) ?_; (with_reducible repeat (first | refine blk_drewN ?_ _ | refine blk_drew ?_ | refine blk_alloc ?_ _)); exact BK265.out) Tryd.underlying27 rfl (by kernel_rfl)) rfl ?_
     exact ⟨_, eW_, by first | exact Kd.R_nil _ _ _ _ _ | exact Kd.N_nil _ _ _ _ _ | exact Kd.V_nil _ _ _ _ _ | exact Kd.Q_nil _ _ _ _ _ | exact Kd.S_nil _ _ _ _ _, hbw HB.out⟩
    ·replace c29 := Bool.eq_false_iff.mpr c29
     subst c29
     have H1 : (signalbenchref30_Step.j1 kj3 a0_0 a1_0 a1_1 a1_2 a1_3 a1_4 a1_5 a1_6 a1_7 a2_0 a2_1 a2_2 a2_3 a2_4 a2_5 a2_6) = some (r1, r2, r3, r4, r5, r6, r7, r8, r9) := by rw [if_neg (show ¬ (false = true) by decide)] at H; exact H
     clear H; have H := H1; clear H1; have H' := sA H; clear H
     go_wp2
     go_meet
     case rel => exact ⟨_, (0), (0), (0), (0), (0), (0), (0), ((⟨#[]⟩ : ByteArray)), H', ⟨by have := HJ3.out; first | omega | exact Nat.le_refl _⟩, ⟨bkw BK262.out⟩, ⟨bkw BK263.out⟩, ⟨bkw BK264.out⟩, ⟨bkw BK265.out⟩, ⟨hbw HB.out⟩⟩
   case rest =>
    clear HC28
    obtain ⟨kq, x266000_27, x266001_27, x266002_27, x266003_27, x266004_27, x266005_27, x266006_27, x266007_27, HA, HJ27, BK262, BK263, BK264, BK265, HB⟩ := hcut
    cases kq with
    | zero => exact absurd HA.out (by simp [signalbenchref30_Step.j1])
    | succ kj27 =>
     have H := HA.out; clear HA
     simp only [signalbenchref30_Step.j1] at H
     obtain ⟨y268, hy268⟩ : ∃ y_ : List (S32), y_ = (([] : List (S32))) := ⟨_, rfl⟩
     replace H : (if a2_6 = 0 then (if a1_0 = 1 then (signalbenchref30_Step.j2 kj27 y268 (decide ((wrap64 (a2_1 - a1_4)) > a0_0)) a1_0 a1_1 a1_2 a1_3 a1_4 a1_5 a1_6 a1_7 a2_0 a2_1 a2_2 a2_3 a2_4 a2_5 a2_6) else (signalbenchref30_Step.j2 kj27 y268 false a1_0 a1_1 a1_2 a1_3 a1_4 a1_5 a1_6 a1_7 a2_0 a2_1 a2_2 a2_3 a2_4 a2_5 a2_6)) else (if a1_0 = 1 then (if y268.length < 2199023255552 then (some (0, a2_2, 0, 0, 0, 0, a2_1, (⟨#[]⟩ : ByteArray), (y268 ++ [(⟨5, a1_2, a2_1, 0, 0, (⟨#[]⟩ : ByteArray), 7⟩ : S32)]))) else (none)) else (some (0, a2_2, 0, 0, 0, 0, a2_1, (⟨#[]⟩ : ByteArray), y268)))) = some (r1, r2, r3, r4, r5, r6, r7, r8, r9) := by first | (rw [hy268]; with_reducible exact H) | (have H2_ := (Option.bind_some _ _).symm.trans H; rw [hy268]; with_reducible exact H2_) | (have H2_ := (Option.bind_some _ _).symm.trans H; with_reducible exact H2_) | with_reducible exact H | (rw [hy268]; exact H) | exact H
     have Ny268 := sA hy268; clear hy268
     by_cases c37 : a2_6 = 0
     ·rw [if_pos c37] at H
      have c37b0 : (a2_6 == 0) = true := beq_iff_eq.mpr c37; have c37b1 : (a2_6 != 0) = false := bne_eq_false_iff_eq.mpr c37; clear c37; have HC38 := sA H; clear H
      go_upto_region 8 with (first | ((with_reducible refine gate_dst (N := 19) rfl ?_); refine Kd.R_lit k32 _ 32 ?hg (N := 19) ?hd (xs := ([] : List (S32))) (inner := []) (ok := fun _ => True) (okp := fun _ => True) ?hr ?hp (fun _ hk => hk) trivial (Below.refl _ _) (Nat.le_refl _) (by simp) ?_; (case hd => rfl); (case hg => rfl); (case hr => first | (go_simp; done) | (go_simp; rfl)); (case hp => exact (Reps.none _ _)); intro v269 w39 ho40 hb hg_ hnew_; clear hg_ hnew_; (first | rw [← Ny268.out] at ho40 | (simp only [Int.reduceToNat] at ho40; rw [← Ny268.out] at ho40)); have HO270 := sA (Kd.R_lower (Kd.R_newB ho40 (g := gb264) (o := .cells #[.int .i64 a2_0, .int .i64 a2_1, .int .i64 a2_2, .int .i64 a2_3, .int .i64 a2_4, .string a2_5, .int .i64 a2_6] 32 (0, 0)) (bkw BK264.out)) (below_size (hbw HB.out))); replace BK262 := sA (blkb BK262.out hb); replace BK263 := sA (blkb BK263.out hb); replace BK264 := sA (blkb BK264.out hb); replace BK265 := sA (blkb BK265.out hb); replace HB := bst HB hb; clear hb ho40; have hnb41 := NB264_262.out; have hnc41 := NB262_264.out; have hnb42 := NB264_263.out; have hnc42 := NB263_264.out; have hnb43 := NB264_265.out; have hnc43 := NB265_264.out; obtain ⟨hcz44_0,hcz44_1,hcz44_2,hcz44_3,hcz44_4,hcz44_5,hcz44_6,hfz44_0,hfz44_1,hfz44_2,hfz44_3,hfz44_4,hfz44_5,hfz44_6⟩ := cQ7 BK264))
      (try simp only [Act.put, List.setIfInBounds_toArray, List.set_cons_zero, List.set_cons_succ])
      go_cut [52] (fun v52 wc => ∃ (kq : Nat) (x52_37 : Bool), v52 = .bool x52_37 ∧ Aside0 (signalbenchref30_Step.j2 kq y268 x52_37 a1_0 a1_1 a1_2 a1_3 a1_4 a1_5 a1_6 a1_7 a2_0 a2_1 a2_2 a2_3 a2_4 a2_5 a2_6 = some (r1, r2, r3, r4, r5, r6, r7, r8, r9)) ∧ Aside0 (kq ≤ kj27) ∧ Aside0 (Kd.R k32 32 wc w.heap.size (fun k_ => k_ ≠ gb264) v269 y268) ∧ Aside0 (wc.heap[gb262]? = some (.cells #[.int .i64 a0_0] 23 (0, 0))) ∧ Aside0 (wc.heap[gb263]? = some (.cells #[.int .i64 a1_0, .int .i64 a1_1, .int .i64 a1_2, .int .i64 a1_3, .int .i64 a1_4, .int .i64 a1_5, .int .i64 a1_6, .string a1_7] 27 (0, 0))) ∧ Aside0 (wc.heap[gb264]? = some (.cells #[.int .i64 a2_0, .int .i64 a2_1, .int .i64 a2_2, .int .i64 a2_3, .int .i64 a2_4, .string a2_5, .int .i64 a2_6] 32 (0, 0))) ∧ Aside0 (wc.heap[gb265]? = some (.cells #[.int .i64 x266000_27, .int .i64 x266001_27, .int .i64 x266002_27, .int .i64 x266003_27, .int .i64 x266004_27, .int .i64 x266005_27, .int .i64 x266006_27, .string x266007_27] 27 (0, 0))) ∧ Aside0 (Below w.heap.size w wc))
      case first =>
       have H := HC38.out; clear HC38
       by_cases c45 : a1_0 = 1
       ·rw [if_pos c45] at H
        have c45b0 : (a1_0 == 1) = true := beq_iff_eq.mpr c45; have c45b1 : (a1_0 != 1) = false := bne_eq_false_iff_eq.mpr c45; clear c45
        (first | rw [c45b0] | (simp only [i64_w, i32_w]; rw [c45b0]) | skip)
        have H' := sA H; clear H; have hnb46 := NB263_262.out; have hnc46 := NB262_263.out; have hnb47 := NB263_264.out; have hnc47 := NB264_263.out; have hnb48 := NB263_265.out; have hnc48 := NB265_263.out; obtain ⟨_,_,_,_,_,_,_,_,_,_,_,_,_,_,_,_⟩ := cQ8 BK263; have hnb50 := NB264_262.out; have hnc50 := NB262_264.out; have hnb51 := NB264_265.out; have hnc51 := NB265_264.out; obtain ⟨_,_,_,_,_,_,_,_,_,_,_,_,_,_⟩ := cQ7 BK264; have hnb53 := NB262_265.out; have hnc53 := NB265_262.out; obtain ⟨_,_⟩ := cQ1 BK262
        go_wp2
        go_meet
        case rel => exact ⟨_, (decide ((wrap64 (a2_1 - a1_4)) > a0_0)), (by first | rfl | (simp; done) | (simp [*]; done)), H', ⟨by have := HJ3.out; have := HJ27.out; first | omega | exact Nat.le_refl _⟩, ⟨by (with_reducible repeat (first | apply Kd.R_alloc | apply Kd.R_drewN | apply Kd.R_drew)); exact Kd.R_mono HO270.out (fun _ hk => hk.2)⟩, ⟨bkw BK262.out⟩, ⟨bkw BK263.out⟩, ⟨bkw BK264.out⟩, ⟨bkw BK265.out⟩, ⟨hbw HB.out⟩⟩
       ·rw [if_neg c45] at H
        have c45b0 : (a1_0 == 1) = false := beq_eq_false_iff_ne.mpr c45; have c45b1 : (a1_0 != 1) = true := bne_iff_ne.mpr c45
        (first | rw [c45b0] | (simp only [i64_w, i32_w]; rw [c45b0]) | skip)
        have H' := sA H; clear H; have hnb55 := NB263_262.out; have hnc55 := NB262_263.out; have hnb56 := NB263_264.out; have hnc56 := NB264_263.out; have hnb57 := NB263_265.out; have hnc57 := NB265_263.out; obtain ⟨_,_,_,_,_,_,_,_,_,_,_,_,_,_,_,_⟩ := cQ8 BK263
        go_wp2
        go_meet
        case rel => exact ⟨_, (false), (by first | rfl | (simp; done) | (simp [*]; done)), H', ⟨by have := HJ3.out; have := HJ27.out; first | omega | exact Nat.le_refl _⟩, ⟨by (with_reducible repeat (first | apply Kd.R_alloc | apply Kd.R_drewN | apply Kd.R_drew)); exact Kd.R_mono HO270.out (fun _ hk => hk.2)⟩, ⟨bkw BK262.out⟩, ⟨bkw BK263.out⟩, ⟨bkw BK264.out⟩, ⟨bkw BK265.out⟩, ⟨hbw HB.out⟩⟩
      case rest =>
       clear HC38
       try clear c37
       try clear c37b0
       try clear c37b1
       try clear hcz44_0
       try clear hcz44_1
       try clear hcz44_2
       try clear hcz44_3
       try clear hcz44_4
       try clear hcz44_5
       try clear hcz44_6
       try clear hfz44_0
       try clear hfz44_1
       try clear hfz44_2
       try clear hfz44_3
       try clear hfz44_4
       try clear hfz44_5
       try clear hfz44_6
       obtain ⟨kq, x52_37, rfl, HA, HJ37, HO_8, BK262, BK263, BK264, BK265, HB⟩ := hcut
       cases kq with
       | zero => exact absurd HA.out (by simp [signalbenchref30_Step.j2])
       | succ kj37 =>
        have H := HA.out; clear HA
        simp only [signalbenchref30_Step.j2] at H
        have HC59 := sA H; clear H
        go_upto_if 52 with (fail)
        go_cut [8] (fun v8 wc => ∃ (kq : Nat) (x8_58 : List (S32)) (x264000_58 : Int) (x264001_58 : Int) (x264002_58 : Int) (x264003_58 : Int) (x264004_58 : Int) (x264005_58 : Int) (x264006_58 : Int) (x264007_58 : ByteArray), Aside0 (signalbenchref30_Step.j3 kq x8_58 x264000_58 x264001_58 x264002_58 x264003_58 x264004_58 x264005_58 x264006_58 x264007_58 a2_0 a2_1 a2_2 a2_3 a2_4 a2_5 a2_6 = some (r1, r2, r3, r4, r5, r6, r7, r8, r9)) ∧ Aside0 (kq ≤ kj37) ∧ Aside0 (Kd.R k32 32 wc w.heap.size (fun k_ => k_ ≠ gb264) v8 x8_58) ∧ Aside0 (wc.heap[gb262]? = some (.cells #[.int .i64 a0_0] 23 (0, 0))) ∧ Aside0 (wc.heap[gb263]? = some (.cells #[.int .i64 x264000_58, .int .i64 x264001_58, .int .i64 x264002_58, .int .i64 x264003_58, .int .i64 x264004_58, .int .i64 x264005_58, .int .i64 x264006_58, .string x264007_58] 27 (0, 0))) ∧ Aside0 (wc.heap[gb264]? = some (.cells #[.int .i64 a2_0, .int .i64 a2_1, .int .i64 a2_2, .int .i64 a2_3, .int .i64 a2_4, .string a2_5, .int .i64 a2_6] 32 (0, 0))) ∧ Aside0 (wc.heap[gb265]? = some (.cells #[.int .i64 x266000_27, .int .i64 x266001_27, .int .i64 x266002_27, .int .i64 x266003_27, .int .i64 x266004_27, .int .i64 x266005_27, .int .i64 x266006_27, .string x266007_27] 27 (0, 0))) ∧ Aside0 (Below w.heap.size w wc))
        case first =>
         have H := HC59.out; clear HC59
         by_cases c60 : x52_37 = true
         ·subst c60
          have H1 : ((signalbenchref30_frame.f kj37 a1_0 a1_1 a1_2 a1_3 a1_4 a1_5 a1_6 a1_7).bind fun bt274 => (if y268.length < 2199023255552 then (signalbenchref30_Step.j3 kj37 (y268 ++ [(⟨bt274.1, bt274.2.1, bt274.2.2.1, bt274.2.2.2.1, bt274.2.2.2.2.1, bt274.2.2.2.2.2.1, bt274.2.2.2.2.2.2⟩ : S32)]) 0 0 0 0 0 0 0 (⟨#[]⟩ : ByteArray) a2_0 a2_1 a2_2 a2_3 a2_4 a2_5 a2_6) else (none))) = some (r1, r2, r3, r4, r5, r6, r7, r8, r9) := by rw [if_pos rfl] at H; exact H
          clear H; have H := H1; clear H1; replace H := Option.bind_eq_some_iff.mp H; obtain ⟨⟨t274, t275, t276, t277, t278, t279, t280⟩, A610, H⟩ := H; replace H : (if y268.length < 2199023255552 then (signalbenchref30_Step.j3 kj37 (y268 ++ [(⟨t274, t275, t276, t277, t278, t279, t280⟩ : S32)]) 0 0 0 0 0 0 0 (⟨#[]⟩ : ByteArray) a2_0 a2_1 a2_2 a2_3 a2_4 a2_5 a2_6) else (none)) = some (r1, r2, r3, r4, r5, r6, r7, r8, r9) := H; have A61 := sA A610; clear A610
          by_cases c62 : y268.length < 2199023255552
          ·rw [if_pos c62] at H
           have LMc62 := sA c62; clear c62; obtain ⟨y281, hy281⟩ : ∃ y_ : List (S32), y_ = (y268 ++ [(⟨t274, t275, t276, t277, t278, t279, t280⟩ : S32)]) := ⟨_, rfl⟩
           replace H : (signalbenchref30_Step.j3 kj37 y281 0 0 0 0 0 0 0 (⟨#[]⟩ : ByteArray) a2_0 a2_1 a2_2 a2_3 a2_4 a2_5 a2_6) = some (r1, r2, r3, r4, r5, r6, r7, r8, r9) := by first | (rw [hy281]; with_reducible exact H) | (have H2_ := (Option.bind_some _ _).symm.trans H; rw [hy281]; with_reducible exact H2_) | (have H2_ := (Option.bind_some _ _).symm.trans H; with_reducible exact H2_) | with_reducible exact H | (rw [hy281]; exact H) | exact H
           have Ny281 := sA hy281; clear hy281; have H' := sA H; clear H; have hnb63 := NB263_262.out; have hnc63 := NB262_263.out; have hnb64 := NB263_264.out; have hnc64 := NB264_263.out; have hnb65 := NB263_265.out; have hnc65 := NB265_263.out; obtain ⟨_,_,_,_,_,_,_,_,_,_,_,_,_,_,_,_⟩ := cQ8 BK263
           go_wp2_with (first | ((with_reducible refine gate_callee (f := 29) rfl ?_); refine goesK (some 55) Tryd.func29 #[.agg #[.int .i64 a1_0, .int .i64 a1_1, .int .i64 a1_2, .int .i64 a1_3, .int .i64 a1_4, .int .i64 a1_5, .int .i64 a1_6, .string a1_7]] ?_; (with_reducible refine (signalbenchref30_frame.calls kj37 a1_0 a1_1 a1_2 a1_3 a1_4 a1_5 a1_6 a1_7 t274 t275 t276 t277 t278 t279 t280 _ A61.out).mono ?_); rintro e w67 ⟨rfl, hb⟩; refine ⟨_, rfl, ?_⟩; replace HO_8 := sA (Kd.R_below (rkw HO_8.out) hb); replace BK262 := sA (blkb BK262.out hb); replace BK263 := sA (blkb BK263.out hb); replace BK264 := sA (blkb BK264.out hb); replace BK265 := sA (blkb BK265.out hb); replace HB := bst HB hb; (try clear hb); (try clear hk)) | ((with_reducible refine gate_builtin (b := .append) (xs := #[.tmp 53, .tmp 56]) rfl ?_); at_builtin; refine Kd.R_append k32 (w0 := w) w.heap.size rfl (.tmp 53) (.tmp 56) 24 32 (.agg #[(.int .i64 0), (.int .i64 0), (.int .i64 0), (.int .i64 0), (.int .i64 0), (.string ⟨#[]⟩), (.int .i64 0)]) 64 rfl Tryd.underlying24 info32 rfl (by decide) (by omega) v269 y268 (⟨t274, t275, t276, t277, t278, t279, t280⟩ : S32) [.int .i64 t274, .int .i64 t275, .int .i64 t276, .int .i64 t277, .int .i64 t278, .string t279, .int .i64 t280] (fun k_ => k_ ≠ gb264) (fun _ => False) rfl rfl ?aP (fun _ hk => hk.elim) ?aF ?aO ?aB ?aS ?aL ?_; (case aP => exact k32_mkM _ _ _ (⟨t274, t275, t276, t277, t278, t279, t280⟩ : S32)); (case aB => exact (hbw HB.out)); (case aF => exact (fun k_ hk => Kd.freshB (g := gb264) (o := .cells #[.int .i64 a2_0, .int .i64 a2_1, .int .i64 a2_2, .int .i64 a2_3, .int .i64 a2_4, .string a2_5, .int .i64 a2_6] 32 (0, 0)) (bkw BK264.out) k_ hk)); (case aO => exact (rkw HO_8.out)); (case aS => exact (below_size (hbw HB.out))); (case aL => have := LMc62.out; omega); intro v282 w68 ho hb hg hat; rw [← Ny281.out] at ho; have n0_ := sA (blkg BK262.out hg (Kd.R_ne HO_8.out BK262.out (by decide))); have n1_ := sA (blkg BK263.out hg (Kd.R_ne HO_8.out BK263.out (by decide))); have n2_ := sA (blkg BK264.out hg (Kd.R_away HO_8.out (fun _ hk => hk))); have n3_ := sA (blkg BK265.out hg (Kd.R_ne HO_8.out BK265.out (by decide))); have n4_ := sA (hb); have n5_ := sA (ho); clear BK262; clear BK263; clear BK264; clear BK265; clear HB; clear HO_8; have BK262 := n0_; have BK263 := n1_; have BK264 := n2_; have BK265 := n3_; have HB := n4_; have HO283 := n5_; clear n0_ n1_ n2_ n3_ n4_ n5_; clear ho hb hg hat; obtain ⟨_,_,_,_,_,_,_,_,_,_,_,_,_,_,_,_⟩ := cQ8 BK263))
           go_meet
           case rel => exact ⟨_, (y281), (0), (0), (0), (0), (0), (0), (0), ((⟨#[]⟩ : ByteArray)), H', ⟨by have := HJ3.out; have := HJ27.out; have := HJ37.out; first | omega | exact Nat.le_refl _⟩, ⟨by (with_reducible repeat (first | apply Kd.R_alloc | apply Kd.R_drewN | apply Kd.R_drew)); exact Kd.R_mono (Kd.R_far (p := ⟨gb263, 7, none⟩) (Kd.R_far (p := ⟨gb263, 6, none⟩) (Kd.R_far (p := ⟨gb263, 5, none⟩) (Kd.R_far (p := ⟨gb263, 4, none⟩) (Kd.R_far (p := ⟨gb263, 3, none⟩) (Kd.R_far (p := ⟨gb263, 2, none⟩) (Kd.R_far (p := ⟨gb263, 1, none⟩) (Kd.R_far (p := ⟨gb263, 0, none⟩) (Kd.R_types HO283.out BK263.out (by decide)) (fun _ hk => hk.2) (.int .i64 0)) (fun _ hk => hk.2) (.int .i64 0)) (fun _ hk => hk.2) (.int .i64 0)) (fun _ hk => hk.2) (.int .i64 0)) (fun _ hk => hk.2) (.int .i64 0)) (fun _ hk => hk.2) (.int .i64 0)) (fun _ hk => hk.2) (.int .i64 0)) (fun _ hk => hk.2) (.string (⟨#[]⟩ : ByteArray))) (fun _ hk => hk.1)⟩, ⟨by (repeat (with_reducible first | refine blk_far ?_ NB262_263.out _ | refine blk_drewN ?_ _ | refine blk_drew ?_ | refine blk_alloc ?_ _)); exact BK262.out⟩, ⟨by (with_reducible repeat (first | refine blk_drewN ?_ _ | refine blk_drew ?_ | refine blk_alloc ?_ _)); refine blk_put8 (.int .i64 a1_0) (.int .i64 a1_1) (.int .i64 a1_2) (.int .i64 a1_3) (.int .i64 a1_4) (.int .i64 a1_5) (.int .i64 a1_6) (.string a1_7) ?_; (with_reducible repeat (first | refine blk_drewN ?_ _ | refine blk_drew ?_ | refine blk_alloc ?_ _)); exact BK263.out⟩, ⟨by (repeat (with_reducible first | refine blk_far ?_ NB264_263.out _ | refine blk_drewN ?_ _ | refine blk_drew ?_ | refine blk_alloc ?_ _)); exact BK264.out⟩, ⟨by (repeat (with_reducible first | refine blk_far ?_ NB265_263.out _ | refine blk_drewN ?_ _ | refine blk_drew ?_ | refine blk_alloc ?_ _)); exact BK265.out⟩, ⟨hbw HB.out⟩⟩
          ·rw [if_neg c62] at H
           exact absurd H (by simp)
         ·replace c60 := Bool.eq_false_iff.mpr c60
          subst c60
          have H1 : (signalbenchref30_Step.j3 kj37 y268 a1_0 a1_1 a1_2 a1_3 a1_4 a1_5 a1_6 a1_7 a2_0 a2_1 a2_2 a2_3 a2_4 a2_5 a2_6) = some (r1, r2, r3, r4, r5, r6, r7, r8, r9) := by rw [if_neg (show ¬ (false = true) by decide)] at H; exact H
          clear H; have H := H1; clear H1; have H' := sA H; clear H
          go_wp2
          go_meet
          case rel => exact ⟨_, (y268), (a1_0), (a1_1), (a1_2), (a1_3), (a1_4), (a1_5), (a1_6), (a1_7), H', ⟨by have := HJ3.out; have := HJ27.out; have := HJ37.out; first | omega | exact Nat.le_refl _⟩, ⟨by (with_reducible repeat (first | apply Kd.R_alloc | apply Kd.R_drewN | apply Kd.R_drew)); exact HO_8.out⟩, ⟨bkw BK262.out⟩, ⟨bkw BK263.out⟩, ⟨bkw BK264.out⟩, ⟨bkw BK265.out⟩, ⟨hbw HB.out⟩⟩
        case rest =>
         clear HC59
         try clear c37
         try clear c37b0
         try clear c37b1
         try clear hcz44_0
         try clear hcz44_1
         try clear hcz44_2
         try clear hcz44_3
         try clear hcz44_4
         try clear hcz44_5
         try clear hcz44_6
         try clear hfz44_0
         try clear hfz44_1
         try clear hfz44_2
         try clear hfz44_3
         try clear hfz44_4
         try clear hfz44_5
         try clear hfz44_6
         obtain ⟨kq, x8_58, x264000_58, x264001_58, x264002_58, x264003_58, x264004_58, x264005_58, x264006_58, x264007_58, HA, HJ58, HO_8, BK262, BK263, BK264, BK265, HB⟩ := hcut
         cases kq with
         | zero => exact absurd HA.out (by simp [signalbenchref30_Step.j3])
         | succ kj58 =>
          have H := HA.out; clear HA
          simp only [signalbenchref30_Step.j3] at H
          by_cases c70 : x264000_58 = 0
          ·rw [if_pos c70] at H
           have c70b0 : (x264000_58 == 0) = true := beq_iff_eq.mpr c70; have c70b1 : (x264000_58 != 0) = false := bne_eq_false_iff_eq.mpr c70; clear c70
           by_cases c71 : 0 < 4101
           ·rw [if_pos c71] at H
            have c71b0 : decide (0 < 4101) = true := decide_eq_true c71; clear c71; obtain ⟨y284, hy284⟩ : ∃ y_ : List Int, y_ = (([(a2_3) % 256] : List Int)) := ⟨_, rfl⟩
            replace H : (if 0 + (strOfNums y284).size ≤ 9223372036854775807 then (some (1, a2_2, a2_1, 0, a2_2, 0, a2_1, (⟨#[]⟩ : ByteArray) ++ (strOfNums y284), x8_58)) else (none)) = some (r1, r2, r3, r4, r5, r6, r7, r8, r9) := by first | (rw [hy284]; with_reducible exact H) | (have H2_ := (Option.bind_some _ _).symm.trans H; rw [hy284]; with_reducible exact H2_) | (have H2_ := (Option.bind_some _ _).symm.trans H; with_reducible exact H2_) | with_reducible exact H | (rw [hy284]; exact H) | exact H
            have Ny284 := sA hy284; clear hy284
            by_cases c72 : 0 + (strOfNums y284).size ≤ 9223372036854775807
            ·rw [if_pos c72] at H
             have c72b0 := eq_true c72; have c72b1 : decide (0 + (strOfNums y284).size ≤ 9223372036854775807) = true := decide_eq_true c72
             try have c72b2 : (9223372036854775807 < 0 + (strOfNums y284).size) = False := eq_false (Nat.not_lt.2 c72)
             simp only [Option.some.injEq, Prod.mk.injEq] at H
             obtain ⟨rfl, rfl, rfl, rfl, rfl, rfl, rfl, rfl, rfl⟩ := H; have hnb73 := NB263_262.out; have hnc73 := NB262_263.out; have hnb74 := NB263_264.out; have hnc74 := NB264_263.out; have hnb75 := NB263_265.out; have hnc75 := NB265_263.out; obtain ⟨_,_,_,_,_,_,_,_,_,_,_,_,_,_,_,_⟩ := cQ8 BK263; have hnb77 := NB264_262.out; have hnc77 := NB262_264.out; have hnb78 := NB264_265.out; have hnc78 := NB265_264.out; obtain ⟨_,_,_,_,_,_,_,_,_,_,_,_,_,_⟩ := cQ7 BK264
             try go_wp2_with (first | ((with_reducible refine gate_dst (N := 74) rfl ?_); refine Kd.R_lit (Kd.int .u8) _ 5 ?hg (N := 74) ?hd (xs := ([(a2_3) % 256] : List Int)) (inner := [.int .u8 ((a2_3) % 256)]) (ok := fun _ => True) (okp := fun _ => True) ?hr ?hp (fun _ hk => hk) trivial (Below.refl _ _) (Nat.le_refl _) (by simp) ?_; (case hd => rfl); (case hg => rfl); (case hr => first | (go_simp; done) | (go_simp; rfl)); (case hp => exact (Reps.one (show Kd.M (Kd.int .u8) _ _ _ ((a2_3) % 256) [.int .u8 ((a2_3) % 256)] from rfl) (Reps.none _ _))); intro v285 w80 ho81 hb hg_ hnew_; clear hg_ hnew_; (first | rw [← Ny284.out] at ho81 | (simp only [Int.reduceToNat] at ho81; rw [← Ny284.out] at ho81)); have HO286 := sA (Kd.R_lower ho81 (below_size (hbw HB.out))); replace HO_8 := sA (Kd.R_below (by (with_reducible repeat (first | apply Kd.R_alloc | apply Kd.R_drewN | apply Kd.R_drew)); exact (Kd.R_mono (Kd.R_far (p := ⟨gb263, 7, none⟩) (Kd.R_far (p := ⟨gb263, 6, none⟩) (Kd.R_far (p := ⟨gb263, 5, none⟩) (Kd.R_far (p := ⟨gb263, 4, none⟩) (Kd.R_far (p := ⟨gb263, 3, none⟩) (Kd.R_far (p := ⟨gb263, 2, none⟩) (Kd.R_far (p := ⟨gb263, 1, none⟩) (Kd.R_far (p := ⟨gb263, 0, none⟩) (Kd.R_types HO_8.out BK263.out (by decide)) (fun _ hk => hk.2) (.int .i64 1)) (fun _ hk => hk.2) (.int .i64 0)) (fun _ hk => hk.2) (.int .i64 a2_1)) (fun _ hk => hk.2) (.int .i64 0)) (fun _ hk => hk.2) (.int .i64 0)) (fun _ hk => hk.2) (.int .i64 0)) (fun _ hk => hk.2) (.int .i64 0)) (fun _ hk => hk.2) (.string (⟨#[]⟩ : ByteArray))) (fun _ h_ => h_.1))) hb); replace BK262 := sA (blk_below (g := gb262) (o := .cells #[.int .i64 a0_0] 23 (0, 0)) (by (repeat (with_reducible first | refine blk_far ?_ NB262_263.out _ | refine blk_drewN ?_ _ | refine blk_drew ?_ | refine blk_alloc ?_ _)); exact BK262.out) hb); replace BK263 := sA (blk_below (g := gb263) (o := .cells #[.int .i64 1, .int .i64 0, .int .i64 a2_1, .int .i64 0, .int .i64 0, .int .i64 0, .int .i64 0, .string (⟨#[]⟩ : ByteArray)] 27 (0, 0)) (by (with_reducible repeat (first | refine blk_drewN ?_ _ | refine blk_drew ?_ | refine blk_alloc ?_ _)); refine blk_put8 (.int .i64 x264000_58) (.int .i64 x264001_58) (.int .i64 x264002_58) (.int .i64 x264003_58) (.int .i64 x264004_58) (.int .i64 x264005_58) (.int .i64 x264006_58) (.string x264007_58) ?_; (with_reducible repeat (first | refine blk_drewN ?_ _ | refine blk_drew ?_ | refine blk_alloc ?_ _)); exact BK263.out) hb); replace BK264 := sA (blk_below (g := gb264) (o := .cells #[.int .i64 a2_0, .int .i64 a2_1, .int .i64 a2_2, .int .i64 a2_3, .int .i64 a2_4, .string a2_5, .int .i64 a2_6] 32 (0, 0)) (by (repeat (with_reducible first | refine blk_far ?_ NB264_263.out _ | refine blk_drewN ?_ _ | refine blk_drew ?_ | refine blk_alloc ?_ _)); exact BK264.out) hb); replace BK265 := sA (blk_below (g := gb265) (o := .cells #[.int .i64 x266000_27, .int .i64 x266001_27, .int .i64 x266002_27, .int .i64 x266003_27, .int .i64 x266004_27, .int .i64 x266005_27, .int .i64 x266006_27, .string x266007_27] 27 (0, 0)) (by (repeat (with_reducible first | refine blk_far ?_ NB265_263.out _ | refine blk_drewN ?_ _ | refine blk_drew ?_ | refine blk_alloc ?_ _)); exact BK265.out) hb); replace HB := bst HB hb; clear hb ho81; have hcv82 := own_string (P := Tryd.prog) Tryd.underlying49 Tryd.underlying5 Tryd.underlying9 (Kd.own_of_R HO286.out); obtain ⟨_,_,_,_,_,_,_,_,_,_,_,_,_,_,_,_⟩ := cQ8 BK263))
             have n0_ : Aside0 (Kd.R k32 32 (w80.setCell ⟨gb263, 7, none⟩ (.string ((⟨#[]⟩ : ByteArray) ++ (strOfNums y284)))) w.heap.size (fun k_ => k_ ≠ gb264) u8 x8_58) := ⟨by (with_reducible repeat (first | apply Kd.R_alloc | apply Kd.R_drewN | apply Kd.R_drew)); exact Kd.R_mono (Kd.R_far (p := ⟨gb263, 7, none⟩) (Kd.R_types HO_8.out BK263.out (by decide)) (fun _ hk => hk.2) (.string ((⟨#[]⟩ : ByteArray) ++ (strOfNums y284)))) (fun _ hk => hk.1)⟩; have n1_ : Aside0 (Kd.R (Kd.int .u8) 5 (w80.setCell ⟨gb263, 7, none⟩ (.string ((⟨#[]⟩ : ByteArray) ++ (strOfNums y284)))) w.heap.size (fun _ => True) v285 y284) := ⟨by (with_reducible repeat (first | apply Kd.R_alloc | apply Kd.R_drewN | apply Kd.R_drew)); exact Kd.R_mono (Kd.R_far (p := ⟨gb263, 7, none⟩) (Kd.R_types HO286.out BK263.out (by decide)) (fun _ hk => hk.2) (.string ((⟨#[]⟩ : ByteArray) ++ (strOfNums y284)))) (fun _ hk => trivial)⟩; have n2_ : Aside0 ((w80.setCell ⟨gb263, 7, none⟩ (.string ((⟨#[]⟩ : ByteArray) ++ (strOfNums y284)))).heap[gb262]? = some (.cells #[.int .i64 a0_0] 23 (0, 0))) := ⟨by (with_reducible repeat (first | refine blk_drewN ?_ _ | refine blk_drew ?_ | refine blk_alloc ?_ _)); refine blk_far ?_ NB262_263.out _; (with_reducible repeat (first | refine blk_drewN ?_ _ | refine blk_drew ?_ | refine blk_alloc ?_ _)); exact BK262.out⟩; have n3_ : Aside0 ((w80.setCell ⟨gb263, 7, none⟩ (.string ((⟨#[]⟩ : ByteArray) ++ (strOfNums y284)))).heap[gb263]? = some (.cells #[.int .i64 1, .int .i64 0, .int .i64 a2_1, .int .i64 0, .int .i64 0, .int .i64 0, .int .i64 0, .string ((⟨#[]⟩ : ByteArray) ++ (strOfNums y284))] 27 (0, 0))) := ⟨by (with_reducible repeat (first | refine blk_drewN ?_ _ | refine blk_drew ?_ | refine blk_alloc ?_ _)); refine blk_put (cs := #[.int .i64 1, .int .i64 0, .int .i64 a2_1, .int .i64 0, .int .i64 0, .int .i64 0, .int .i64 0, .string (⟨#[]⟩ : ByteArray)]) ?_ 7 _ rfl; (with_reducible repeat (first | refine blk_drewN ?_ _ | refine blk_drew ?_ | refine blk_alloc ?_ _)); exact BK263.out⟩; have n4_ : Aside0 ((w80.setCell ⟨gb263, 7, none⟩ (.string ((⟨#[]⟩ : ByteArray) ++ (strOfNums y284)))).heap[gb264]? = some (.cells #[.int .i64 a2_0, .int .i64 a2_1, .int .i64 a2_2, .int .i64 a2_3, .int .i64 a2_4, .string a2_5, .int .i64 a2_6] 32 (0, 0))) := ⟨by (with_reducible repeat (first | refine blk_drewN ?_ _ | refine blk_drew ?_ | refine blk_alloc ?_ _)); refine blk_far ?_ NB264_263.out _; (with_reducible repeat (first | refine blk_drewN ?_ _ | refine blk_drew ?_ | refine blk_alloc ?_ _)); exact BK264.out⟩; have n5_ : Aside0 ((w80.setCell ⟨gb263, 7, none⟩ (.string ((⟨#[]⟩ : ByteArray) ++ (strOfNums y284)))).heap[gb265]? = some (.cells #[.int .i64 x266000_27, .int .i64 x266001_27, .int .i64 x266002_27, .int .i64 x266003_27, .int .i64 x266004_27, .int .i64 x266005_27, .int .i64 x266006_27, .string x266007_27] 27 (0, 0))) := ⟨by (with_reducible repeat (first | refine blk_drewN ?_ _ | refine blk_drew ?_ | refine blk_alloc ?_ _)); refine blk_far ?_ NB265_263.out _; (with_reducible repeat (first | refine blk_drewN ?_ _ | refine blk_drew ?_ | refine blk_alloc ?_ _)); exact BK265.out⟩
             have n6_ : Aside0 (Below w.heap.size w (w80.setCell ⟨gb263, 7, none⟩ (.string ((⟨#[]⟩ : ByteArray) ++ (strOfNums y284))))) := ⟨hbw HB.out⟩; (try clear HO_8); (try clear HO286); (try clear BK262); (try clear BK263); (try clear BK264); (try clear BK265); (try clear HB)
             generalize (w80.setCell ⟨gb263, 7, none⟩ (.string ((⟨#[]⟩ : ByteArray) ++ (strOfNums y284)))) = w84 at n0_ n1_ n2_ n3_ n4_ n5_ n6_ ⊢
             have HO_8 := n0_; have HO286 := n1_; have BK262 := n2_; have BK263 := n3_; have BK264 := n4_; have BK265 := n5_; have HB := n6_; clear n0_ n1_ n2_ n3_ n4_ n5_ n6_; replace HO_8 := sA (Kd.R_drew HO_8.out); replace HO286 := sA (Kd.R_drew HO286.out); replace BK262 := sA (blk_drew BK262.out); replace BK263 := sA (blk_drew BK263.out); replace BK264 := sA (blk_drew BK264.out); replace BK265 := sA (blk_drew BK265.out); replace HB := sA (below_drew1 HB.out); refine start_ (n := 12) (S := fun w' => w'.cell? ⟨gb264, 0, none⟩ = some (.int .i64 a2_0) ∧ w'.cell? ⟨gb264, 1, none⟩ = some (.int .i64 a2_1) ∧ w'.cell? ⟨gb264, 2, none⟩ = some (.int .i64 a2_2) ∧ w'.cell? ⟨gb264, 3, none⟩ = some (.int .i64 a2_3) ∧ w'.cell? ⟨gb264, 4, none⟩ = some (.int .i64 a2_4) ∧ w'.cell? ⟨gb264, 5, none⟩ = some (.string a2_5) ∧ w'.cell? ⟨gb264, 6, none⟩ = some (.int .i64 a2_6)) (ds := []) #[N_,N_,N_,N_,N_,N_,N_,N_,N_,N_,N_,N_] (by kernel_rfl) rfl rfl ⟨ck BK264 0, ck BK264 1, ck BK264 2, ck BK264 3, ck BK264 4, ck BK264 5, ck BK264 6⟩ (fun hHeld => ?_); refine with_tabW signalbenchref30_Step.tab15 signalbenchref30_Step.bits15 (fun HT_ HW_ => ?_)
             generalize w84.drew = w85 at HO_8 HO286 BK262 BK263 BK264 BK265 HB hHeld ⊢
             refine pstep 0 (some 78) #[Y_,N_,N_,N_,N_,N_,N_,N_,N_,N_,N_,N_] HT_.out ?_; refine pstep 2 (some 80) #[Y_,N_,Y_,N_,N_,N_,N_,N_,N_,N_,N_,N_] HT_.out ?_; refine pstep 4 (some 82) #[Y_,N_,Y_,N_,Y_,N_,N_,N_,N_,N_,N_,N_] HT_.out ?_; refine take_ (i := 1) (N := some 79) (v := ?_) (a' := ?_) #[Y_,Y_,Y_,N_,Y_,N_,N_,N_,N_,N_,N_,N_] rfl rfl (take_ofW HT_.out HW_.out (by kernel_rfl)) (fun _ _ _ h => h) (Or.inl ⟨by rfl, ?_⟩) hHeld ?_ ?_; rotate_left
             ·rintro w' ⟨s0, s1, s2, s3, s4, s5, s6⟩
              go_simp
              with_reducible rfl
             rotate_left
             ·simp only [Act.put, nrm]
              rfl
             refine pstep 6 (some 84) #[Y_,Y_,Y_,N_,Y_,N_,Y_,N_,N_,N_,N_,N_] HT_.out ?_; refine take_ (i := 3) (N := some 81) (v := ?_) (a' := ?_) #[Y_,Y_,Y_,Y_,Y_,N_,Y_,N_,N_,N_,N_,N_] rfl rfl (take_ofW HT_.out HW_.out (by kernel_rfl)) (fun _ _ _ h => h) (Or.inl ⟨by rfl, ?_⟩) hHeld ?_ ?_; rotate_left
             ·rintro w' ⟨s0, s1, s2, s3, s4, s5, s6⟩
              go_simp
              with_reducible rfl
             rotate_left
             ·simp only [Act.put, nrm]
              rfl
             refine take_ (i := 5) (N := some 83) (v := ?_) (a' := ?_) #[Y_,Y_,Y_,Y_,Y_,Y_,Y_,N_,N_,N_,N_,N_] rfl rfl (take_ofW HT_.out HW_.out (by kernel_rfl)) (fun _ _ _ h => h) (Or.inl ⟨by rfl, ?_⟩) hHeld ?_ ?_; rotate_left
             ·rintro w' ⟨s0, s1, s2, s3, s4, s5, s6⟩
              go_simp
              with_reducible rfl
             rotate_left
             ·simp only [Act.put, nrm]
              rfl
             refine one_ (i := 7) (N := none) #[Y_,Y_,Y_,Y_,Y_,Y_,Y_,Y_,N_,N_,N_,N_] rfl rfl (one_of HT_.out (by kernel_rfl)) (by decide) (fun K hK => ?_); have hs86 : w85.cell? ⟨gb263, 4, none⟩ = some (.int .i64 0) := ck BK263 4; have hfs86 := blk_frozen BK263.out 4; have := NB262_263.out; have := NB264_263.out; have := NB265_263.out; have := NB263_262.out; have := NB263_264.out; have := NB263_265.out; refine skip_ (w1 := ?_) (by rfl) rfl ?_ ?_; rotate_left
             ·go_simp
              rfl
             refine hK.out _ _ ⟨((cell_far (p := ⟨gb263, _, none⟩) NB264_263.out _).trans (hHeld.1)), ((cell_far (p := ⟨gb263, _, none⟩) NB264_263.out _).trans (hHeld.2.1)), ((cell_far (p := ⟨gb263, _, none⟩) NB264_263.out _).trans (hHeld.2.2.1)), ((cell_far (p := ⟨gb263, _, none⟩) NB264_263.out _).trans (hHeld.2.2.2.1)), ((cell_far (p := ⟨gb263, _, none⟩) NB264_263.out _).trans (hHeld.2.2.2.2.1)), ((cell_far (p := ⟨gb263, _, none⟩) NB264_263.out _).trans (hHeld.2.2.2.2.2.1)), ((cell_far (p := ⟨gb263, _, none⟩) NB264_263.out _).trans (hHeld.2.2.2.2.2.2))⟩ (fun hHeld => ?_); clear hK K; refine pstep 8 (some 85) #[Y_,Y_,Y_,Y_,Y_,Y_,Y_,Y_,Y_,N_,N_,N_] HT_.out ?_; refine one_ (i := 9) (N := none) #[Y_,Y_,Y_,Y_,Y_,Y_,Y_,Y_,Y_,Y_,N_,N_] rfl rfl (one_of HT_.out (by kernel_rfl)) (by decide) (fun K hK => ?_); have hs87 : w85.cell? ⟨gb263, 1, none⟩ = some (.int .i64 0) := ck BK263 1; have hfs87 := blk_frozen BK263.out 1; have := NB262_263.out; have := NB264_263.out; have := NB265_263.out; have := NB263_262.out; have := NB263_264.out; have := NB263_265.out; refine skip_ (w1 := ?_) (by rfl) rfl ?_ ?_; rotate_left
             ·go_simp
              rfl
             refine hK.out _ _ ⟨((cell_far (p := ⟨gb263, _, none⟩) NB264_263.out _).trans (hHeld.1)), ((cell_far (p := ⟨gb263, _, none⟩) NB264_263.out _).trans (hHeld.2.1)), ((cell_far (p := ⟨gb263, _, none⟩) NB264_263.out _).trans (hHeld.2.2.1)), ((cell_far (p := ⟨gb263, _, none⟩) NB264_263.out _).trans (hHeld.2.2.2.1)), ((cell_far (p := ⟨gb263, _, none⟩) NB264_263.out _).trans (hHeld.2.2.2.2.1)), ((cell_far (p := ⟨gb263, _, none⟩) NB264_263.out _).trans (hHeld.2.2.2.2.2.1)), ((cell_far (p := ⟨gb263, _, none⟩) NB264_263.out _).trans (hHeld.2.2.2.2.2.2))⟩ (fun hHeld => ?_); clear hK K; refine pstep 10 (some 86) #[Y_,Y_,Y_,Y_,Y_,Y_,Y_,Y_,Y_,Y_,Y_,N_] HT_.out ?_; refine one_ (i := 11) (N := none) #[Y_,Y_,Y_,Y_,Y_,Y_,Y_,Y_,Y_,Y_,Y_,Y_] rfl rfl (one_of HT_.out (by kernel_rfl)) (by decide) (fun K hK => ?_); have hs88 : w85.cell? ⟨gb263, 6, none⟩ = some (.int .i64 0) := ck BK263 6; have hfs88 := blk_frozen BK263.out 6; have := NB262_263.out; have := NB264_263.out; have := NB265_263.out; have := NB263_262.out; have := NB263_264.out; have := NB263_265.out; refine skip_ (w1 := ?_) (by rfl) rfl ?_ ?_; rotate_left
             ·go_simp
              rfl
             refine hK.out _ _ ⟨((cell_far (p := ⟨gb263, _, none⟩) NB264_263.out _).trans (hHeld.1)), ((cell_far (p := ⟨gb263, _, none⟩) NB264_263.out _).trans (hHeld.2.1)), ((cell_far (p := ⟨gb263, _, none⟩) NB264_263.out _).trans (hHeld.2.2.1)), ((cell_far (p := ⟨gb263, _, none⟩) NB264_263.out _).trans (hHeld.2.2.2.1)), ((cell_far (p := ⟨gb263, _, none⟩) NB264_263.out _).trans (hHeld.2.2.2.2.1)), ((cell_far (p := ⟨gb263, _, none⟩) NB264_263.out _).trans (hHeld.2.2.2.2.2.1)), ((cell_far (p := ⟨gb263, _, none⟩) NB264_263.out _).trans (hHeld.2.2.2.2.2.2))⟩ (fun hHeld => ?_); clear hK K; refine done_ (done_of HT_.out (by kernel_rfl)) ?_; obtain ⟨_,_,_,_,_,_,_,_,_,_,_,_,_,_,_,_⟩ := cQ8 BK263; have hnb90 := NB265_262.out; have hnc90 := NB262_265.out; obtain ⟨_,_,_,_,_,_,_,_,_,_,_,_,_,_,_,_⟩ := cQ8 BK265
             try go_wp2
             refine bodyPost_ret (results_ct rfl _ _ gb265 27 #[.int .i64 1, .int .i64 a2_2, .int .i64 a2_1, .int .i64 0, .int .i64 a2_2, .int .i64 0, .int .i64 a2_1, .string ((⟨#[]⟩ : ByteArray) ++ (strOfNums y284))] (0, 0) _ rfl (by (with_reducible repeat (first | refine blk_drewN ?_ _ | refine blk_drew ?_ | refine blk_alloc ?_ _)); refine blk_put8 (.int .i64 x266000_27) (.int .i64 x266001_27) (.int .i64 x266002_27) (.int .i64 x266003_27) (.int .i64 x266004_27) (.int .i64 x266005_27) (.int .i64 x266006_27) (.string x266007_27) ?_; (repeat (with_reducible first | refine blk_far ?_ NB265_263.out _ | refine blk_drewN ?_ _ | refine blk_drew ?_ | refine blk_alloc ?_ _)); exact BK265.out) Tryd.underlying27 rfl (by kernel_rfl)) rfl ?_
             exact ⟨_, eW_, by (with_reducible repeat (first | apply Kd.R_alloc | apply Kd.R_drewN | apply Kd.R_drew)); exact Kd.R_mono (Kd.R_far (p := ⟨gb265, 7, none⟩) (Kd.R_far (p := ⟨gb265, 6, none⟩) (Kd.R_far (p := ⟨gb265, 5, none⟩) (Kd.R_far (p := ⟨gb265, 4, none⟩) (Kd.R_far (p := ⟨gb265, 3, none⟩) (Kd.R_far (p := ⟨gb265, 2, none⟩) (Kd.R_far (p := ⟨gb265, 1, none⟩) (Kd.R_far (p := ⟨gb265, 0, none⟩) (Kd.R_far (p := ⟨gb263, 6, none⟩) (Kd.R_far (p := ⟨gb263, 1, none⟩) (Kd.R_far (p := ⟨gb263, 4, none⟩) (Kd.R_types (Kd.R_types HO_8.out BK263.out (by decide)) BK265.out (by decide)) (fun _ hk => hk.1.2) (.int .i64 a2_2)) (fun _ hk => hk.1.2) (.int .i64 a2_2)) (fun _ hk => hk.1.2) (.int .i64 a2_1)) (fun _ hk => hk.2) (.int .i64 1)) (fun _ hk => hk.2) (.int .i64 a2_2)) (fun _ hk => hk.2) (.int .i64 a2_1)) (fun _ hk => hk.2) (.int .i64 0)) (fun _ hk => hk.2) (.int .i64 a2_2)) (fun _ hk => hk.2) (.int .i64 0)) (fun _ hk => hk.2) (.int .i64 a2_1)) (fun _ hk => hk.2) (.string ((⟨#[]⟩ : ByteArray) ++ (strOfNums y284)))) (fun _ hk => trivial), hbw HB.out⟩
            ·rw [if_neg c72] at H
             exact absurd H (by simp)
           ·exact absurd (by decide) c71
          ·rw [if_neg c70] at H
           have c70b0 : (x264000_58 == 0) = false := beq_eq_false_iff_ne.mpr c70; have c70b1 : (x264000_58 != 0) = true := bne_iff_ne.mpr c70
           by_cases c107 : (x264007_58.size : Int) < 4101
           ·rw [if_pos c107] at H
            have c107b0 : decide ((x264007_58.size : Int) < 4101) = true := decide_eq_true c107; have c107b1 : decide (x264007_58.size < 4101) = true := decide_eq_true (by omega); clear c107; obtain ⟨y287, hy287⟩ : ∃ y_ : List Int, y_ = (([(a2_3) % 256] : List Int)) := ⟨_, rfl⟩
            replace H : (if x264007_58.size + (strOfNums y287).size ≤ 9223372036854775807 then (some (x264000_58, a2_2, x264002_58, x264003_58, a2_2, x264005_58, a2_1, x264007_58 ++ (strOfNums y287), x8_58)) else (none)) = some (r1, r2, r3, r4, r5, r6, r7, r8, r9) := by first | (rw [hy287]; with_reducible exact H) | (have H2_ := (Option.bind_some _ _).symm.trans H; rw [hy287]; with_reducible exact H2_) | (have H2_ := (Option.bind_some _ _).symm.trans H; with_reducible exact H2_) | with_reducible exact H | (rw [hy287]; exact H) | exact H
            have Ny287 := sA hy287; clear hy287
            by_cases c108 : x264007_58.size + (strOfNums y287).size ≤ 9223372036854775807
            ·rw [if_pos c108] at H
             have c108b0 := eq_true c108; have c108b1 : decide (x264007_58.size + (strOfNums y287).size ≤ 9223372036854775807) = true := decide_eq_true c108
             try have c108b2 : (9223372036854775807 < x264007_58.size + (strOfNums y287).size) = False := eq_false (Nat.not_lt.2 c108)
             simp only [Option.some.injEq, Prod.mk.injEq] at H
             obtain ⟨rfl, rfl, rfl, rfl, rfl, rfl, rfl, rfl, rfl⟩ := H; have hnb109 := NB263_262.out; have hnc109 := NB262_263.out; have hnb110 := NB263_264.out; have hnc110 := NB264_263.out; have hnb111 := NB263_265.out; have hnc111 := NB265_263.out; obtain ⟨_,_,_,_,_,_,_,_,_,_,_,_,_,_,_,_⟩ := cQ8 BK263; have hnb113 := NB264_262.out; have hnc113 := NB262_264.out; have hnb114 := NB264_265.out; have hnc114 := NB265_264.out; obtain ⟨_,_,_,_,_,_,_,_,_,_,_,_,_,_⟩ := cQ7 BK264
             try go_wp2_with (first | ((with_reducible refine gate_dst (N := 74) rfl ?_); refine Kd.R_lit (Kd.int .u8) _ 5 ?hg (N := 74) ?hd (xs := ([(a2_3) % 256] : List Int)) (inner := [.int .u8 ((a2_3) % 256)]) (ok := fun _ => True) (okp := fun _ => True) ?hr ?hp (fun _ hk => hk) trivial (Below.refl _ _) (Nat.le_refl _) (by simp) ?_; (case hd => rfl); (case hg => rfl); (case hr => first | (go_simp; done) | (go_simp; rfl)); (case hp => exact (Reps.one (show Kd.M (Kd.int .u8) _ _ _ ((a2_3) % 256) [.int .u8 ((a2_3) % 256)] from rfl) (Reps.none _ _))); intro v288 w116 ho117 hb hg_ hnew_; clear hg_ hnew_; (first | rw [← Ny287.out] at ho117 | (simp only [Int.reduceToNat] at ho117; rw [← Ny287.out] at ho117)); have HO289 := sA (Kd.R_lower ho117 (below_size (hbw HB.out))); replace HO_8 := sA (Kd.R_below (rkw HO_8.out) hb); replace BK262 := sA (blkb BK262.out hb); replace BK263 := sA (blkb BK263.out hb); replace BK264 := sA (blkb BK264.out hb); replace BK265 := sA (blkb BK265.out hb); replace HB := bst HB hb; clear hb ho117; have hcv118 := own_string (P := Tryd.prog) Tryd.underlying49 Tryd.underlying5 Tryd.underlying9 (Kd.own_of_R HO289.out); obtain ⟨_,_,_,_,_,_,_,_,_,_,_,_,_,_,_,_⟩ := cQ8 BK263))
             have n0_ : Aside0 (Kd.R k32 32 (w116.setCell ⟨gb263, 7, none⟩ (.string (x264007_58 ++ (strOfNums y287)))) w.heap.size (fun k_ => k_ ≠ gb264) u8 x8_58) := ⟨by (with_reducible repeat (first | apply Kd.R_alloc | apply Kd.R_drewN | apply Kd.R_drew)); exact Kd.R_mono (Kd.R_far (p := ⟨gb263, 7, none⟩) (Kd.R_types HO_8.out BK263.out (by decide)) (fun _ hk => hk.2) (.string (x264007_58 ++ (strOfNums y287)))) (fun _ hk => hk.1)⟩; have n1_ : Aside0 (Kd.R (Kd.int .u8) 5 (w116.setCell ⟨gb263, 7, none⟩ (.string (x264007_58 ++ (strOfNums y287)))) w.heap.size (fun _ => True) v288 y287) := ⟨by (with_reducible repeat (first | apply Kd.R_alloc | apply Kd.R_drewN | apply Kd.R_drew)); exact Kd.R_mono (Kd.R_far (p := ⟨gb263, 7, none⟩) (Kd.R_types HO289.out BK263.out (by decide)) (fun _ hk => hk.2) (.string (x264007_58 ++ (strOfNums y287)))) (fun _ hk => trivial)⟩; have n2_ : Aside0 ((w116.setCell ⟨gb263, 7, none⟩ (.string (x264007_58 ++ (strOfNums y287)))).heap[gb262]? = some (.cells #[.int .i64 a0_0] 23 (0, 0))) := ⟨by (with_reducible repeat (first | refine blk_drewN ?_ _ | refine blk_drew ?_ | refine blk_alloc ?_ _)); refine blk_far ?_ NB262_263.out _; (with_reducible repeat (first | refine blk_drewN ?_ _ | refine blk_drew ?_ | refine blk_alloc ?_ _)); exact BK262.out⟩; have n3_ : Aside0 ((w116.setCell ⟨gb263, 7, none⟩ (.string (x264007_58 ++ (strOfNums y287)))).heap[gb263]? = some (.cells #[.int .i64 x264000_58, .int .i64 x264001_58, .int .i64 x264002_58, .int .i64 x264003_58, .int .i64 x264004_58, .int .i64 x264005_58, .int .i64 x264006_58, .string (x264007_58 ++ (strOfNums y287))] 27 (0, 0))) := ⟨by (with_reducible repeat (first | refine blk_drewN ?_ _ | refine blk_drew ?_ | refine blk_alloc ?_ _)); refine blk_put (cs := #[.int .i64 x264000_58, .int .i64 x264001_58, .int .i64 x264002_58, .int .i64 x264003_58, .int .i64 x264004_58, .int .i64 x264005_58, .int .i64 x264006_58, .string x264007_58]) ?_ 7 _ rfl; (with_reducible repeat (first | refine blk_drewN ?_ _ | refine blk_drew ?_ | refine blk_alloc ?_ _)); exact BK263.out⟩; have n4_ : Aside0 ((w116.setCell ⟨gb263, 7, none⟩ (.string (x264007_58 ++ (strOfNums y287)))).heap[gb264]? = some (.cells #[.int .i64 a2_0, .int .i64 a2_1, .int .i64 a2_2, .int .i64 a2_3, .int .i64 a2_4, .string a2_5, .int .i64 a2_6] 32 (0, 0))) := ⟨by (with_reducible repeat (first | refine blk_drewN ?_ _ | refine blk_drew ?_ | refine blk_alloc ?_ _)); refine blk_far ?_ NB264_263.out _; (with_reducible repeat (first | refine blk_drewN ?_ _ | refine blk_drew ?_ | refine blk_alloc ?_ _)); exact BK264.out⟩; have n5_ : Aside0 ((w116.setCell ⟨gb263, 7, none⟩ (.string (x264007_58 ++ (strOfNums y287)))).heap[gb265]? = some (.cells #[.int .i64 x266000_27, .int .i64 x266001_27, .int .i64 x266002_27, .int .i64 x266003_27, .int .i64 x266004_27, .int .i64 x266005_27, .int .i64 x266006_27, .string x266007_27] 27 (0, 0))) := ⟨by (with_reducible repeat (first | refine blk_drewN ?_ _ | refine blk_drew ?_ | refine blk_alloc ?_ _)); refine blk_far ?_ NB265_263.out _; (with_reducible repeat (first | refine blk_drewN ?_ _ | refine blk_drew ?_ | refine blk_alloc ?_ _)); exact BK265.out⟩
             have n6_ : Aside0 (Below w.heap.size w (w116.setCell ⟨gb263, 7, none⟩ (.string (x264007_58 ++ (strOfNums y287))))) := ⟨hbw HB.out⟩; (try clear HO_8); (try clear HO289); (try clear BK262); (try clear BK263); (try clear BK264); (try clear BK265); (try clear HB)
             generalize (w116.setCell ⟨gb263, 7, none⟩ (.string (x264007_58 ++ (strOfNums y287)))) = w120 at n0_ n1_ n2_ n3_ n4_ n5_ n6_ ⊢
             have HO_8 := n0_; have HO289 := n1_; have BK262 := n2_; have BK263 := n3_; have BK264 := n4_; have BK265 := n5_; have HB := n6_; clear n0_ n1_ n2_ n3_ n4_ n5_ n6_; replace HO_8 := sA (Kd.R_drew HO_8.out); replace HO289 := sA (Kd.R_drew HO289.out); replace BK262 := sA (blk_drew BK262.out); replace BK263 := sA (blk_drew BK263.out); replace BK264 := sA (blk_drew BK264.out); replace BK265 := sA (blk_drew BK265.out); replace HB := sA (below_drew1 HB.out); refine start_ (n := 12) (S := fun w' => w'.cell? ⟨gb264, 0, none⟩ = some (.int .i64 a2_0) ∧ w'.cell? ⟨gb264, 1, none⟩ = some (.int .i64 a2_1) ∧ w'.cell? ⟨gb264, 2, none⟩ = some (.int .i64 a2_2) ∧ w'.cell? ⟨gb264, 3, none⟩ = some (.int .i64 a2_3) ∧ w'.cell? ⟨gb264, 4, none⟩ = some (.int .i64 a2_4) ∧ w'.cell? ⟨gb264, 5, none⟩ = some (.string a2_5) ∧ w'.cell? ⟨gb264, 6, none⟩ = some (.int .i64 a2_6)) (ds := []) #[N_,N_,N_,N_,N_,N_,N_,N_,N_,N_,N_,N_] (by kernel_rfl) rfl rfl ⟨ck BK264 0, ck BK264 1, ck BK264 2, ck BK264 3, ck BK264 4, ck BK264 5, ck BK264 6⟩ (fun hHeld => ?_); refine with_tabW signalbenchref30_Step.tab15 signalbenchref30_Step.bits15 (fun HT_ HW_ => ?_)
             generalize w120.drew = w121 at HO_8 HO289 BK262 BK263 BK264 BK265 HB hHeld ⊢
             refine pstep 0 (some 78) #[Y_,N_,N_,N_,N_,N_,N_,N_,N_,N_,N_,N_] HT_.out ?_; refine pstep 2 (some 80) #[Y_,N_,Y_,N_,N_,N_,N_,N_,N_,N_,N_,N_] HT_.out ?_; refine pstep 4 (some 82) #[Y_,N_,Y_,N_,Y_,N_,N_,N_,N_,N_,N_,N_] HT_.out ?_; refine take_ (i := 1) (N := some 79) (v := ?_) (a' := ?_) #[Y_,Y_,Y_,N_,Y_,N_,N_,N_,N_,N_,N_,N_] rfl rfl (take_ofW HT_.out HW_.out (by kernel_rfl)) (fun _ _ _ h => h) (Or.inl ⟨by rfl, ?_⟩) hHeld ?_ ?_; rotate_left
             ·rintro w' ⟨s0, s1, s2, s3, s4, s5, s6⟩
              go_simp
              with_reducible rfl
             rotate_left
             ·simp only [Act.put, nrm]
              rfl
             refine pstep 6 (some 84) #[Y_,Y_,Y_,N_,Y_,N_,Y_,N_,N_,N_,N_,N_] HT_.out ?_; refine take_ (i := 3) (N := some 81) (v := ?_) (a' := ?_) #[Y_,Y_,Y_,Y_,Y_,N_,Y_,N_,N_,N_,N_,N_] rfl rfl (take_ofW HT_.out HW_.out (by kernel_rfl)) (fun _ _ _ h => h) (Or.inl ⟨by rfl, ?_⟩) hHeld ?_ ?_; rotate_left
             ·rintro w' ⟨s0, s1, s2, s3, s4, s5, s6⟩
              go_simp
              with_reducible rfl
             rotate_left
             ·simp only [Act.put, nrm]
              rfl
             refine take_ (i := 5) (N := some 83) (v := ?_) (a' := ?_) #[Y_,Y_,Y_,Y_,Y_,Y_,Y_,N_,N_,N_,N_,N_] rfl rfl (take_ofW HT_.out HW_.out (by kernel_rfl)) (fun _ _ _ h => h) (Or.inl ⟨by rfl, ?_⟩) hHeld ?_ ?_; rotate_left
             ·rintro w' ⟨s0, s1, s2, s3, s4, s5, s6⟩
              go_simp
              with_reducible rfl
             rotate_left
             ·simp only [Act.put, nrm]
              rfl
             refine one_ (i := 7) (N := none) #[Y_,Y_,Y_,Y_,Y_,Y_,Y_,Y_,N_,N_,N_,N_] rfl rfl (one_of HT_.out (by kernel_rfl)) (by decide) (fun K hK => ?_); have hs122 : w121.cell? ⟨gb263, 4, none⟩ = some (.int .i64 x264004_58) := ck BK263 4; have hfs122 := blk_frozen BK263.out 4; have := NB262_263.out; have := NB264_263.out; have := NB265_263.out; have := NB263_262.out; have := NB263_264.out; have := NB263_265.out; refine skip_ (w1 := ?_) (by rfl) rfl ?_ ?_; rotate_left
             ·go_simp
              rfl
             refine hK.out _ _ ⟨((cell_far (p := ⟨gb263, _, none⟩) NB264_263.out _).trans (hHeld.1)), ((cell_far (p := ⟨gb263, _, none⟩) NB264_263.out _).trans (hHeld.2.1)), ((cell_far (p := ⟨gb263, _, none⟩) NB264_263.out _).trans (hHeld.2.2.1)), ((cell_far (p := ⟨gb263, _, none⟩) NB264_263.out _).trans (hHeld.2.2.2.1)), ((cell_far (p := ⟨gb263, _, none⟩) NB264_263.out _).trans (hHeld.2.2.2.2.1)), ((cell_far (p := ⟨gb263, _, none⟩) NB264_263.out _).trans (hHeld.2.2.2.2.2.1)), ((cell_far (p := ⟨gb263, _, none⟩) NB264_263.out _).trans (hHeld.2.2.2.2.2.2))⟩ (fun hHeld => ?_); clear hK K; refine pstep 8 (some 85) #[Y_,Y_,Y_,Y_,Y_,Y_,Y_,Y_,Y_,N_,N_,N_] HT_.out ?_; refine one_ (i := 9) (N := none) #[Y_,Y_,Y_,Y_,Y_,Y_,Y_,Y_,Y_,Y_,N_,N_] rfl rfl (one_of HT_.out (by kernel_rfl)) (by decide) (fun K hK => ?_); have hs123 : w121.cell? ⟨gb263, 1, none⟩ = some (.int .i64 x264001_58) := ck BK263 1; have hfs123 := blk_frozen BK263.out 1; have := NB262_263.out; have := NB264_263.out; have := NB265_263.out; have := NB263_262.out; have := NB263_264.out; have := NB263_265.out; refine skip_ (w1 := ?_) (by rfl) rfl ?_ ?_; rotate_left
             ·go_simp
              rfl
             refine hK.out _ _ ⟨((cell_far (p := ⟨gb263, _, none⟩) NB264_263.out _).trans (hHeld.1)), ((cell_far (p := ⟨gb263, _, none⟩) NB264_263.out _).trans (hHeld.2.1)), ((cell_far (p := ⟨gb263, _, none⟩) NB264_263.out _).trans (hHeld.2.2.1)), ((cell_far (p := ⟨gb263, _, none⟩) NB264_263.out _).trans (hHeld.2.2.2.1)), ((cell_far (p := ⟨gb263, _, none⟩) NB264_263.out _).trans (hHeld.2.2.2.2.1)), ((cell_far (p := ⟨gb263, _, none⟩) NB264_263.out _).trans (hHeld.2.2.2.2.2.1)), ((cell_far (p := ⟨gb263, _, none⟩) NB264_263.out _).trans (hHeld.2.2.2.2.2.2))⟩ (fun hHeld => ?_); clear hK K; refine pstep 10 (some 86) #[Y_,Y_,Y_,Y_,Y_,Y_,Y_,Y_,Y_,Y_,Y_,N_] HT_.out ?_; refine one_ (i := 11) (N := none) #[Y_,Y_,Y_,Y_,Y_,Y_,Y_,Y_,Y_,Y_,Y_,Y_] rfl rfl (one_of HT_.out (by kernel_rfl)) (by decide) (fun K hK => ?_); have hs124 : w121.cell? ⟨gb263, 6, none⟩ = some (.int .i64 x264006_58) := ck BK263 6; have hfs124 := blk_frozen BK263.out 6; have := NB262_263.out; have := NB264_263.out; have := NB265_263.out; have := NB263_262.out; have := NB263_264.out; have := NB263_265.out; refine skip_ (w1 := ?_) (by rfl) rfl ?_ ?_; rotate_left
             ·go_simp
              rfl
             refine hK.out _ _ ⟨((cell_far (p := ⟨gb263, _, none⟩) NB264_263.out _).trans (hHeld.1)), ((cell_far (p := ⟨gb263, _, none⟩) NB264_263.out _).trans (hHeld.2.1)), ((cell_far (p := ⟨gb263, _, none⟩) NB264_263.out _).trans (hHeld.2.2.1)), ((cell_far (p := ⟨gb263, _, none⟩) NB264_263.out _).trans (hHeld.2.2.2.1)), ((cell_far (p := ⟨gb263, _, none⟩) NB264_263.out _).trans (hHeld.2.2.2.2.1)), ((cell_far (p := ⟨gb263, _, none⟩) NB264_263.out _).trans (hHeld.2.2.2.2.2.1)), ((cell_far (p := ⟨gb263, _, none⟩) NB264_263.out _).trans (hHeld.2.2.2.2.2.2))⟩ (fun hHeld => ?_); clear hK K; refine done_ (done_of HT_.out (by kernel_rfl)) ?_; obtain ⟨_,_,_,_,_,_,_,_,_,_,_,_,_,_,_,_⟩ := cQ8 BK263; have hnb126 := NB265_262.out; have hnc126 := NB262_265.out; obtain ⟨_,_,_,_,_,_,_,_,_,_,_,_,_,_,_,_⟩ := cQ8 BK265
             try go_wp2
             refine bodyPost_ret (results_ct rfl _ _ gb265 27 #[.int .i64 x264000_58, .int .i64 a2_2, .int .i64 x264002_58, .int .i64 x264003_58, .int .i64 a2_2, .int .i64 x264005_58, .int .i64 a2_1, .string (x264007_58 ++ (strOfNums y287))] (0, 0) _ rfl (by (with_reducible repeat (first | refine blk_drewN ?_ _ | refine blk_drew ?_ | refine blk_alloc ?_ _)); refine blk_put8 (.int .i64 x266000_27) (.int .i64 x266001_27) (.int .i64 x266002_27) (.int .i64 x266003_27) (.int .i64 x266004_27) (.int .i64 x266005_27) (.int .i64 x266006_27) (.string x266007_27) ?_; (repeat (with_reducible first | refine blk_far ?_ NB265_263.out _ | refine blk_drewN ?_ _ | refine blk_drew ?_ | refine blk_alloc ?_ _)); exact BK265.out) Tryd.underlying27 rfl (by kernel_rfl)) rfl ?_
             exact ⟨_, eW_, by (with_reducible repeat (first | apply Kd.R_alloc | apply Kd.R_drewN | apply Kd.R_drew)); exact Kd.R_mono (Kd.R_far (p := ⟨gb265, 7, none⟩) (Kd.R_far (p := ⟨gb265, 6, none⟩) (Kd.R_far (p := ⟨gb265, 5, none⟩) (Kd.R_far (p := ⟨gb265, 4, none⟩) (Kd.R_far (p := ⟨gb265, 3, none⟩) (Kd.R_far (p := ⟨gb265, 2, none⟩) (Kd.R_far (p := ⟨gb265, 1, none⟩) (Kd.R_far (p := ⟨gb265, 0, none⟩) (Kd.R_far (p := ⟨gb263, 6, none⟩) (Kd.R_far (p := ⟨gb263, 1, none⟩) (Kd.R_far (p := ⟨gb263, 4, none⟩) (Kd.R_types (Kd.R_types HO_8.out BK263.out (by decide)) BK265.out (by decide)) (fun _ hk => hk.1.2) (.int .i64 a2_2)) (fun _ hk => hk.1.2) (.int .i64 a2_2)) (fun _ hk => hk.1.2) (.int .i64 a2_1)) (fun _ hk => hk.2) (.int .i64 x264000_58)) (fun _ hk => hk.2) (.int .i64 a2_2)) (fun _ hk => hk.2) (.int .i64 x264002_58)) (fun _ hk => hk.2) (.int .i64 x264003_58)) (fun _ hk => hk.2) (.int .i64 a2_2)) (fun _ hk => hk.2) (.int .i64 x264005_58)) (fun _ hk => hk.2) (.int .i64 a2_1)) (fun _ hk => hk.2) (.string (x264007_58 ++ (strOfNums y287)))) (fun _ hk => trivial), hbw HB.out⟩
            ·rw [if_neg c108] at H
             exact absurd H (by simp)
           ·rw [if_neg c107] at H
            have c107b0 : decide ((x264007_58.size : Int) < 4101) = false := decide_eq_false c107; have c107b1 : decide (x264007_58.size < 4101) = false := decide_eq_false (by omega); clear c107
            simp only [Option.some.injEq, Prod.mk.injEq] at H
            obtain ⟨rfl, rfl, rfl, rfl, rfl, rfl, rfl, rfl, rfl⟩ := H; have hnb128 := NB263_262.out; have hnc128 := NB262_263.out; have hnb129 := NB263_264.out; have hnc129 := NB264_263.out; have hnb130 := NB263_265.out; have hnc130 := NB265_263.out; obtain ⟨_,_,_,_,_,_,_,_,_,_,_,_,_,_,_,_⟩ := cQ8 BK263
            try go_wp2
            replace HO_8 := sA (Kd.R_drew HO_8.out); replace BK262 := sA (blk_drew BK262.out); replace BK263 := sA (blk_drew BK263.out); replace BK264 := sA (blk_drew BK264.out); replace BK265 := sA (blk_drew BK265.out); replace HB := sA (below_drew1 HB.out); refine start_ (n := 12) (S := fun w' => w'.cell? ⟨gb264, 0, none⟩ = some (.int .i64 a2_0) ∧ w'.cell? ⟨gb264, 1, none⟩ = some (.int .i64 a2_1) ∧ w'.cell? ⟨gb264, 2, none⟩ = some (.int .i64 a2_2) ∧ w'.cell? ⟨gb264, 3, none⟩ = some (.int .i64 a2_3) ∧ w'.cell? ⟨gb264, 4, none⟩ = some (.int .i64 a2_4) ∧ w'.cell? ⟨gb264, 5, none⟩ = some (.string a2_5) ∧ w'.cell? ⟨gb264, 6, none⟩ = some (.int .i64 a2_6)) (ds := []) #[N_,N_,N_,N_,N_,N_,N_,N_,N_,N_,N_,N_] (by kernel_rfl) rfl rfl ⟨ck BK264 0, ck BK264 1, ck BK264 2, ck BK264 3, ck BK264 4, ck BK264 5, ck BK264 6⟩ (fun hHeld => ?_); refine with_tabW signalbenchref30_Step.tab15 signalbenchref30_Step.bits15 (fun HT_ HW_ => ?_)
            generalize wc.drew = w132 at HO_8 BK262 BK263 BK264 BK265 HB hHeld ⊢
            refine pstep 0 (some 78) #[Y_,N_,N_,N_,N_,N_,N_,N_,N_,N_,N_,N_] HT_.out ?_; refine pstep 2 (some 80) #[Y_,N_,Y_,N_,N_,N_,N_,N_,N_,N_,N_,N_] HT_.out ?_; refine pstep 4 (some 82) #[Y_,N_,Y_,N_,Y_,N_,N_,N_,N_,N_,N_,N_] HT_.out ?_; refine take_ (i := 1) (N := some 79) (v := ?_) (a' := ?_) #[Y_,Y_,Y_,N_,Y_,N_,N_,N_,N_,N_,N_,N_] rfl rfl (take_ofW HT_.out HW_.out (by kernel_rfl)) (fun _ _ _ h => h) (Or.inl ⟨by rfl, ?_⟩) hHeld ?_ ?_; rotate_left
            ·rintro w' ⟨s0, s1, s2, s3, s4, s5, s6⟩
             go_simp
             with_reducible rfl
            rotate_left
            ·simp only [Act.put, nrm]
             rfl
            refine pstep 6 (some 84) #[Y_,Y_,Y_,N_,Y_,N_,Y_,N_,N_,N_,N_,N_] HT_.out ?_; refine take_ (i := 3) (N := some 81) (v := ?_) (a' := ?_) #[Y_,Y_,Y_,Y_,Y_,N_,Y_,N_,N_,N_,N_,N_] rfl rfl (take_ofW HT_.out HW_.out (by kernel_rfl)) (fun _ _ _ h => h) (Or.inl ⟨by rfl, ?_⟩) hHeld ?_ ?_; rotate_left
            ·rintro w' ⟨s0, s1, s2, s3, s4, s5, s6⟩
             go_simp
             with_reducible rfl
            rotate_left
            ·simp only [Act.put, nrm]
             rfl
            refine take_ (i := 5) (N := some 83) (v := ?_) (a' := ?_) #[Y_,Y_,Y_,Y_,Y_,Y_,Y_,N_,N_,N_,N_,N_] rfl rfl (take_ofW HT_.out HW_.out (by kernel_rfl)) (fun _ _ _ h => h) (Or.inl ⟨by rfl, ?_⟩) hHeld ?_ ?_; rotate_left
            ·rintro w' ⟨s0, s1, s2, s3, s4, s5, s6⟩
             go_simp
             with_reducible rfl
            rotate_left
            ·simp only [Act.put, nrm]
             rfl
            refine one_ (i := 7) (N := none) #[Y_,Y_,Y_,Y_,Y_,Y_,Y_,Y_,N_,N_,N_,N_] rfl rfl (one_of HT_.out (by kernel_rfl)) (by decide) (fun K hK => ?_); have hs133 : w132.cell? ⟨gb263, 4, none⟩ = some (.int .i64 x264004_58) := ck BK263 4; have hfs133 := blk_frozen BK263.out 4; have := NB262_263.out; have := NB264_263.out; have := NB265_263.out; have := NB263_262.out; have := NB263_264.out; have := NB263_265.out; refine skip_ (w1 := ?_) (by rfl) rfl ?_ ?_; rotate_left
            ·go_simp
             rfl
            refine hK.out _ _ ⟨((cell_far (p := ⟨gb263, _, none⟩) NB264_263.out _).trans (hHeld.1)), ((cell_far (p := ⟨gb263, _, none⟩) NB264_263.out _).trans (hHeld.2.1)), ((cell_far (p := ⟨gb263, _, none⟩) NB264_263.out _).trans (hHeld.2.2.1)), ((cell_far (p := ⟨gb263, _, none⟩) NB264_263.out _).trans (hHeld.2.2.2.1)), ((cell_far (p := ⟨gb263, _, none⟩) NB264_263.out _).trans (hHeld.2.2.2.2.1)), ((cell_far (p := ⟨gb263, _, none⟩) NB264_263.out _).trans (hHeld.2.2.2.2.2.1)), ((cell_far (p := ⟨gb263, _, none⟩) NB264_263.out _).trans (hHeld.2.2.2.2.2.2))⟩ (fun hHeld => ?_); clear hK K; refine pstep 8 (some 85) #[Y_,Y_,Y_,Y_,Y_,Y_,Y_,Y_,Y_,N_,N_,N_] HT_.out ?_; refine one_ (i := 9) (N := none) #[Y_,Y_,Y_,Y_,Y_,Y_,Y_,Y_,Y_,Y_,N_,N_] rfl rfl (one_of HT_.out (by kernel_rfl)) (by decide) (fun K hK => ?_); have hs134 : w132.cell? ⟨gb263, 1, none⟩ = some (.int .i64 x264001_58) := ck BK263 1; have hfs134 := blk_frozen BK263.out 1; have := NB262_263.out; have := NB264_263.out; have := NB265_263.out; have := NB263_262.out; have := NB263_264.out; have := NB263_265.out; refine skip_ (w1 := ?_) (by rfl) rfl ?_ ?_; rotate_left
            ·go_simp
             rfl
            refine hK.out _ _ ⟨((cell_far (p := ⟨gb263, _, none⟩) NB264_263.out _).trans (hHeld.1)), ((cell_far (p := ⟨gb263, _, none⟩) NB264_263.out _).trans (hHeld.2.1)), ((cell_far (p := ⟨gb263, _, none⟩) NB264_263.out _).trans (hHeld.2.2.1)), ((cell_far (p := ⟨gb263, _, none⟩) NB264_263.out _).trans (hHeld.2.2.2.1)), ((cell_far (p := ⟨gb263, _, none⟩) NB264_263.out _).trans (hHeld.2.2.2.2.1)), ((cell_far (p := ⟨gb263, _, none⟩) NB264_263.out _).trans (hHeld.2.2.2.2.2.1)), ((cell_far (p := ⟨gb263, _, none⟩) NB264_263.out _).trans (hHeld.2.2.2.2.2.2))⟩ (fun hHeld => ?_); clear hK K; refine pstep 10 (some 86) #[Y_,Y_,Y_,Y_,Y_,Y_,Y_,Y_,Y_,Y_,Y_,N_] HT_.out ?_; refine one_ (i := 11) (N := none) #[Y_,Y_,Y_,Y_,Y_,Y_,Y_,Y_,Y_,Y_,Y_,Y_] rfl rfl (one_of HT_.out (by kernel_rfl)) (by decide) (fun K hK => ?_); have hs135 : w132.cell? ⟨gb263, 6, none⟩ = some (.int .i64 x264006_58) := ck BK263 6; have hfs135 := blk_frozen BK263.out 6; have := NB262_263.out; have := NB264_263.out; have := NB265_263.out; have := NB263_262.out; have := NB263_264.out; have := NB263_265.out; refine skip_ (w1 := ?_) (by rfl) rfl ?_ ?_; rotate_left
            ·go_simp
             rfl
            refine hK.out _ _ ⟨((cell_far (p := ⟨gb263, _, none⟩) NB264_263.out _).trans (hHeld.1)), ((cell_far (p := ⟨gb263, _, none⟩) NB264_263.out _).trans (hHeld.2.1)), ((cell_far (p := ⟨gb263, _, none⟩) NB264_263.out _).trans (hHeld.2.2.1)), ((cell_far (p := ⟨gb263, _, none⟩) NB264_263.out _).trans (hHeld.2.2.2.1)), ((cell_far (p := ⟨gb263, _, none⟩) NB264_263.out _).trans (hHeld.2.2.2.2.1)), ((cell_far (p := ⟨gb263, _, none⟩) NB264_263.out _).trans (hHeld.2.2.2.2.2.1)), ((cell_far (p := ⟨gb263, _, none⟩) NB264_263.out _).trans (hHeld.2.2.2.2.2.2))⟩ (fun hHeld => ?_); clear hK K; refine done_ (done_of HT_.out (by kernel_rfl)) ?_; obtain ⟨_,_,_,_,_,_,_,_,_,_,_,_,_,_,_,_⟩ := cQ8 BK263; have hnb137 := NB265_262.out; have hnc137 := NB262_265.out; have hnb138 := NB265_264.out; have hnc138 := NB264_265.out; obtain ⟨_,_,_,_,_,_,_,_,_,_,_,_,_,_,_,_⟩ := cQ8 BK265
            try go_wp2
            refine bodyPost_ret (results_ct rfl _ _ gb265 27 #[.int .i64 x264000_58, .int .i64 a2_2, .int .i64 x264002_58, .int .i64 x264003_58, .int .i64 a2_2, .int .i64 x264005_58, .int .i64 a2_1, .string x264007_58] (0, 0) _ rfl (by (with_reducible repeat (first | refine blk_drewN ?_ _ | refine blk_drew ?_ | refine blk_alloc ?_ _)); refine blk_put8 (.int .i64 x266000_27) (.int .i64 x266001_27) (.int .i64 x266002_27) (.int .i64 x266003_27) (.int .i64 x266004_27) (.int .i64 x266005_27) (.int .i64 x266006_27) (.string x266007_27) ?_; (repeat (with_reducible first | refine blk_far ?_ NB265_263.out _ | refine blk_drewN ?_ _ | refine blk_drew ?_ | refine blk_alloc ?_ _)); exact BK265.out) Tryd.underlying27 rfl (by kernel_rfl)) rfl ?_
            exact ⟨_, eW_, by (with_reducible repeat (first | apply Kd.R_alloc | apply Kd.R_drewN | apply Kd.R_drew)); exact Kd.R_mono (Kd.R_far (p := ⟨gb265, 7, none⟩) (Kd.R_far (p := ⟨gb265, 6, none⟩) (Kd.R_far (p := ⟨gb265, 5, none⟩) (Kd.R_far (p := ⟨gb265, 4, none⟩) (Kd.R_far (p := ⟨gb265, 3, none⟩) (Kd.R_far (p := ⟨gb265, 2, none⟩) (Kd.R_far (p := ⟨gb265, 1, none⟩) (Kd.R_far (p := ⟨gb265, 0, none⟩) (Kd.R_far (p := ⟨gb263, 6, none⟩) (Kd.R_far (p := ⟨gb263, 1, none⟩) (Kd.R_far (p := ⟨gb263, 4, none⟩) (Kd.R_types (Kd.R_types HO_8.out BK263.out (by decide)) BK265.out (by decide)) (fun _ hk => hk.1.2) (.int .i64 a2_2)) (fun _ hk => hk.1.2) (.int .i64 a2_2)) (fun _ hk => hk.1.2) (.int .i64 a2_1)) (fun _ hk => hk.2) (.int .i64 x264000_58)) (fun _ hk => hk.2) (.int .i64 a2_2)) (fun _ hk => hk.2) (.int .i64 x264002_58)) (fun _ hk => hk.2) (.int .i64 x264003_58)) (fun _ hk => hk.2) (.int .i64 a2_2)) (fun _ hk => hk.2) (.int .i64 x264005_58)) (fun _ hk => hk.2) (.int .i64 a2_1)) (fun _ hk => hk.2) (.string x264007_58)) (fun _ hk => trivial), hbw HB.out⟩
     ·rw [if_neg c37] at H
      have c37b0 : (a2_6 == 0) = false := beq_eq_false_iff_ne.mpr c37; have c37b1 : (a2_6 != 0) = true := bne_iff_ne.mpr c37
      by_cases c140 : a1_0 = 1
      ·rw [if_pos c140] at H
       have c140b0 : (a1_0 == 1) = true := beq_iff_eq.mpr c140; have c140b1 : (a1_0 != 1) = false := bne_eq_false_iff_eq.mpr c140; clear c140
       by_cases c141 : y268.length < 2199023255552
       ·rw [if_pos c141] at H
        have LMc141 := sA c141; clear c141; obtain ⟨y271, hy271⟩ : ∃ y_ : List (S32), y_ = (y268 ++ [(⟨5, a1_2, a2_1, 0, 0, (⟨#[]⟩ : ByteArray), 7⟩ : S32)]) := ⟨_, rfl⟩
        replace H : (some (0, a2_2, 0, 0, 0, 0, a2_1, (⟨#[]⟩ : ByteArray), y271)) = some (r1, r2, r3, r4, r5, r6, r7, r8, r9) := by first | (rw [hy271]; with_reducible exact H) | (have H2_ := (Option.bind_some _ _).symm.trans H; rw [hy271]; with_reducible exact H2_) | (have H2_ := (Option.bind_some _ _).symm.trans H; with_reducible exact H2_) | with_reducible exact H | (rw [hy271]; exact H) | exact H
        have Ny271 := sA hy271; clear hy271
        simp only [Option.some.injEq, Prod.mk.injEq] at H
        obtain ⟨rfl, rfl, rfl, rfl, rfl, rfl, rfl, rfl, rfl⟩ := H
        go_wp2_with (first | ((with_reducible refine gate_dst (N := 19) rfl ?_); refine Kd.R_lit k32 _ 32 ?hg (N := 19) ?hd (xs := ([] : List (S32))) (inner := []) (ok := fun _ => True) (okp := fun _ => True) ?hr ?hp (fun _ hk => hk) trivial (Below.refl _ _) (Nat.le_refl _) (by simp) ?_; (case hd => rfl); (case hg => rfl); (case hr => first | (go_simp; done) | (go_simp; rfl)); (case hp => exact (Reps.none _ _)); intro v269 w142 ho143 hb hg_ hnew_; clear hg_ hnew_; (first | rw [← Ny268.out] at ho143 | (simp only [Int.reduceToNat] at ho143; rw [← Ny268.out] at ho143)); have HO270 := sA (Kd.R_lower (Kd.R_newB ho143 (g := gb264) (o := .cells #[.int .i64 a2_0, .int .i64 a2_1, .int .i64 a2_2, .int .i64 a2_3, .int .i64 a2_4, .string a2_5, .int .i64 a2_6] 32 (0, 0)) (bkw BK264.out)) (below_size (hbw HB.out))); replace BK262 := sA (blkb BK262.out hb); replace BK263 := sA (blkb BK263.out hb); replace BK264 := sA (blkb BK264.out hb); replace BK265 := sA (blkb BK265.out hb); replace HB := bst HB hb; clear hb ho143; have hnb144 := NB264_262.out; have hnc144 := NB262_264.out; have hnb145 := NB264_263.out; have hnc145 := NB263_264.out; have hnb146 := NB264_265.out; have hnc146 := NB265_264.out; obtain ⟨_,_,_,_,_,_,_,_,_,_,_,_,_,_⟩ := cQ7 BK264; have hnb148 := NB263_262.out; have hnc148 := NB262_263.out; have hnb149 := NB263_265.out; have hnc149 := NB265_263.out; obtain ⟨_,_,_,_,_,_,_,_,_,_,_,_,_,_,_,_⟩ := cQ8 BK263) | ((with_reducible refine gate_builtin (b := .append) (xs := #[.tmp 26, .tmp 32]) rfl ?_); at_builtin; refine Kd.R_append k32 (w0 := w) w.heap.size rfl (.tmp 26) (.tmp 32) 24 32 (.agg #[(.int .i64 0), (.int .i64 0), (.int .i64 0), (.int .i64 0), (.int .i64 0), (.string ⟨#[]⟩), (.int .i64 0)]) 64 rfl Tryd.underlying24 info32 rfl (by decide) (by omega) v269 y268 (⟨5, a1_2, a2_1, 0, 0, (⟨#[]⟩ : ByteArray), 7⟩ : S32) [.int .i64 5, .int .i64 a1_2, .int .i64 a2_1, .int .i64 0, .int .i64 0, .string (⟨#[]⟩ : ByteArray), .int .i64 7] (fun k_ => k_ ≠ gb264) (fun _ => False) rfl rfl ?aP (fun _ hk => hk.elim) ?aF ?aO ?aB ?aS ?aL ?_; (case aP => exact k32_mkM _ _ _ (⟨5, a1_2, a2_1, 0, 0, (⟨#[]⟩ : ByteArray), 7⟩ : S32)); (case aB => exact (hbw HB.out)); (case aF => exact (fun k_ hk => Kd.freshB (g := gb264) (o := .cells #[.int .i64 a2_0, .int .i64 a2_1, .int .i64 a2_2, .int .i64 a2_3, .int .i64 a2_4, .string a2_5, .int .i64 a2_6] 32 (0, 0)) (bkw BK264.out) k_ hk)); (case aO => exact (by (with_reducible repeat (first | apply Kd.R_alloc | apply Kd.R_drewN | apply Kd.R_drew)); exact Kd.R_mono HO270.out (fun _ hk => hk.2))); (case aS => exact (below_size (hbw HB.out))); (case aL => have := LMc141.out; omega); intro v272 w151 ho hb hg hat; rw [← Ny271.out] at ho; have n0_ := sA (blkg BK262.out hg (Kd.R_ne HO270.out BK262.out (by decide))); have n1_ := sA (blkg BK263.out hg (Kd.R_ne HO270.out BK263.out (by decide))); have n2_ := sA (blkg BK264.out hg (Kd.R_away HO270.out (fun _ hk => hk.2))); have n3_ := sA (blkg BK265.out hg (Kd.R_ne HO270.out BK265.out (by decide))); have n4_ := sA (hb); have n5_ := sA (ho); clear BK262; clear BK263; clear BK264; clear BK265; clear HB; clear HO270; have BK262 := n0_; have BK263 := n1_; have BK264 := n2_; have BK265 := n3_; have HB := n4_; have HO273 := n5_; clear n0_ n1_ n2_ n3_ n4_ n5_; clear ho hb hg hat; obtain ⟨_,_,_,_,_,_,_,_,_,_,_,_,_,_⟩ := cQ7 BK264; have hnb153 := NB265_262.out; have hnc153 := NB262_265.out; obtain ⟨_,_,_,_,_,_,_,_,_,_,_,_,_,_,_,_⟩ := cQ8 BK265))
        refine bodyPost_ret (results_ct rfl _ _ gb265 27 #[.int .i64 0, .int .i64 a2_2, .int .i64 0, .int .i64 0, .int .i64 0, .int .i64 0, .int .i64 a2_1, .string (⟨#[]⟩ : ByteArray)] (0, 0) _ rfl (by (with_reducible repeat (first | refine blk_drewN ?_ _ | refine blk_drew ?_ | refine blk_alloc ?_ _)); refine blk_put8 (.int .i64 x266000_27) (.int .i64 x266001_27) (.int .i64 x266002_27) (.int .i64 x266003_27) (.int .i64 x266004_27) (.int .i64 x266005_27) (.int .i64 x266006_27) (.string x266007_27) ?_; (with_reducible repeat (first | refine blk_drewN ?_ _ | refine blk_drew ?_ | refine blk_alloc ?_ _)); exact BK265.out) Tryd.underlying27 rfl (by kernel_rfl)) rfl ?_
        exact ⟨_, eW_, by (with_reducible repeat (first | apply Kd.R_alloc | apply Kd.R_drewN | apply Kd.R_drew)); exact Kd.R_mono (Kd.R_far (p := ⟨gb265, 7, none⟩) (Kd.R_far (p := ⟨gb265, 6, none⟩) (Kd.R_far (p := ⟨gb265, 5, none⟩) (Kd.R_far (p := ⟨gb265, 4, none⟩) (Kd.R_far (p := ⟨gb265, 3, none⟩) (Kd.R_far (p := ⟨gb265, 2, none⟩) (Kd.R_far (p := ⟨gb265, 1, none⟩) (Kd.R_far (p := ⟨gb265, 0, none⟩) (Kd.R_types HO273.out BK265.out (by decide)) (fun _ hk => hk.2) (.int .i64 0)) (fun _ hk => hk.2) (.int .i64 a2_2)) (fun _ hk => hk.2) (.int .i64 0)) (fun _ hk => hk.2) (.int .i64 0)) (fun _ hk => hk.2) (.int .i64 0)) (fun _ hk => hk.2) (.int .i64 0)) (fun _ hk => hk.2) (.int .i64 a2_1)) (fun _ hk => hk.2) (.string (⟨#[]⟩ : ByteArray))) (fun _ hk => trivial), hbw HB.out⟩
       ·rw [if_neg c141] at H
        exact absurd H (by simp)
      ·rw [if_neg c140] at H
       have c140b0 : (a1_0 == 1) = false := beq_eq_false_iff_ne.mpr c140; have c140b1 : (a1_0 != 1) = true := bne_iff_ne.mpr c140
       simp only [Option.some.injEq, Prod.mk.injEq] at H
       obtain ⟨rfl, rfl, rfl, rfl, rfl, rfl, rfl, rfl, rfl⟩ := H
       go_wp2_with (first | ((with_reducible refine gate_dst (N := 19) rfl ?_); refine Kd.R_lit k32 _ 32 ?hg (N := 19) ?hd (xs := ([] : List (S32))) (inner := []) (ok := fun _ => True) (okp := fun _ => True) ?hr ?hp (fun _ hk => hk) trivial (Below.refl _ _) (Nat.le_refl _) (by simp) ?_; (case hd => rfl); (case hg => rfl); (case hr => first | (go_simp; done) | (go_simp; rfl)); (case hp => exact (Reps.none _ _)); intro v269 w155 ho156 hb hg_ hnew_; clear hg_ hnew_; (first | rw [← Ny268.out] at ho156 | (simp only [Int.reduceToNat] at ho156; rw [← Ny268.out] at ho156)); have HO270 := sA (Kd.R_lower (Kd.R_newB ho156 (g := gb264) (o := .cells #[.int .i64 a2_0, .int .i64 a2_1, .int .i64 a2_2, .int .i64 a2_3, .int .i64 a2_4, .string a2_5, .int .i64 a2_6] 32 (0, 0)) (bkw BK264.out)) (below_size (hbw HB.out))); replace BK262 := sA (blkb BK262.out hb); replace BK263 := sA (blkb BK263.out hb); replace BK264 := sA (blkb BK264.out hb); replace BK265 := sA (blkb BK265.out hb); replace HB := bst HB hb; clear hb ho156; have hnb157 := NB264_262.out; have hnc157 := NB262_264.out; have hnb158 := NB264_263.out; have hnc158 := NB263_264.out; have hnb159 := NB264_265.out; have hnc159 := NB265_264.out; obtain ⟨_,_,_,_,_,_,_,_,_,_,_,_,_,_⟩ := cQ7 BK264; have hnb161 := NB263_262.out; have hnc161 := NB262_263.out; have hnb162 := NB263_265.out; have hnc162 := NB265_263.out; obtain ⟨_,_,_,_,_,_,_,_,_,_,_,_,_,_,_,_⟩ := cQ8 BK263; have hnb164 := NB265_262.out; have hnc164 := NB262_265.out; obtain ⟨_,_,_,_,_,_,_,_,_,_,_,_,_,_,_,_⟩ := cQ8 BK265))
       refine bodyPost_ret (results_ct rfl _ _ gb265 27 #[.int .i64 0, .int .i64 a2_2, .int .i64 0, .int .i64 0, .int .i64 0, .int .i64 0, .int .i64 a2_1, .string (⟨#[]⟩ : ByteArray)] (0, 0) _ rfl (by (with_reducible repeat (first | refine blk_drewN ?_ _ | refine blk_drew ?_ | refine blk_alloc ?_ _)); refine blk_put8 (.int .i64 x266000_27) (.int .i64 x266001_27) (.int .i64 x266002_27) (.int .i64 x266003_27) (.int .i64 x266004_27) (.int .i64 x266005_27) (.int .i64 x266006_27) (.string x266007_27) ?_; (with_reducible repeat (first | refine blk_drewN ?_ _ | refine blk_drew ?_ | refine blk_alloc ?_ _)); exact BK265.out) Tryd.underlying27 rfl (by kernel_rfl)) rfl ?_
       exact ⟨_, eW_, by (with_reducible repeat (first | apply Kd.R_alloc | apply Kd.R_drewN | apply Kd.R_drew)); exact Kd.R_mono (Kd.R_far (p := ⟨gb265, 7, none⟩) (Kd.R_far (p := ⟨gb265, 6, none⟩) (Kd.R_far (p := ⟨gb265, 5, none⟩) (Kd.R_far (p := ⟨gb265, 4, none⟩) (Kd.R_far (p := ⟨gb265, 3, none⟩) (Kd.R_far (p := ⟨gb265, 2, none⟩) (Kd.R_far (p := ⟨gb265, 1, none⟩) (Kd.R_far (p := ⟨gb265, 0, none⟩) (Kd.R_types HO270.out BK265.out (by decide)) (fun _ hk => hk.2) (.int .i64 0)) (fun _ hk => hk.2) (.int .i64 a2_2)) (fun _ hk => hk.2) (.int .i64 0)) (fun _ hk => hk.2) (.int .i64 0)) (fun _ hk => hk.2) (.int .i64 0)) (fun _ hk => hk.2) (.int .i64 0)) (fun _ hk => hk.2) (.int .i64 a2_1)) (fun _ hk => hk.2) (.string (⟨#[]⟩ : ByteArray))) (fun _ hk => trivial), hbw HB.out⟩

end Go.Proofs.YtmalhgidhieamaaDoor.PModbusDecodes
