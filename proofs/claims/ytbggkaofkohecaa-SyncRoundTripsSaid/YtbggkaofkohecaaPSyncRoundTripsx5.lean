-- Written by a program of this session (wip/tools/pr.py), which calls the kit's print with changes of its own.
import Derived.Test.YtbggkaofkohecaaIss
import Derived.Test.YtbggkaofkohecaaPSyncRoundTripsx0
import Derived.Test.YtbggkaofkohecaaPSyncRoundTripsx2
import Derived.Test.YtbggkaofkohecaaPSyncRoundTripsx3
import Derived.Test.YtbggkaofkohecaaPSyncRoundTripsx4
namespace Go.Proofs.Ytbggkaofkohecaa.PSyncRoundTrips
open Go.RowKit Go.Proofs.YtbggkaofkohecaaW.PrintWords Go.Proofs.YtbggkaofkohecaaW.PrintLast Go.Proofs.YtbggkaofkohecaaW.PrintMore
attribute [local go_sem] max2_int min2_int max_two min_two max_three min_three max_four min_four   -- for this text's walks alone
set_option linter.unusedVariables false
set_option linter.unusedSimpArgs false

/-! ### sync_Step: function 11 -/
mutual
def sync_Step.j0 : Nat → Bool → ByteArray → Int → Bool → Int → Int → Int → Int → Int → Int → Int → ByteArray → Int → Int → Int → Int → Int → ByteArray → Int → Option (Int × Int × Int × Int × Int × Int × Int × ByteArray × (List (S32)))
 | 0, _, _, _, _, _, _, _, _, _, _, _, _, _, _, _, _, _, _, _ => none
 | k + 1, x20, x137000, x137001, x137002, x138000, x138001, x138002, x138003, x138004, x138005, x138006, x138007, x139000, x139001, x139002, x139003, x139004, x139005, x139006 => if x20 = true then (some (x138000, x138001, x138002, x138003, x138004, x138005, x138006, x138007, ([] : List (S32)))) else (sync_Step.j1 k x137000 x137001 x137002 x138000 x138001 x138002 x138003 x138004 x138005 x138006 x138007 x139000 x139001 x139002 x139003 x139004 x139005 x139006)
def sync_Step.j1 : Nat → ByteArray → Int → Bool → Int → Int → Int → Int → Int → Int → Int → ByteArray → Int → Int → Int → Int → Int → ByteArray → Int → Option (Int × Int × Int × Int × Int × Int × Int × ByteArray × (List (S32)))
 | 0, _, _, _, _, _, _, _, _, _, _, _, _, _, _, _, _, _, _ => none
 | k + 1, x137000, x137001, x137002, x138000, x138001, x138002, x138003, x138004, x138005, x138006, x138007, x139000, x139001, x139002, x139003, x139004, x139005, x139006 => if x139006 = 0 then (sync_Step.j2 k x137000 x137001 x137002 x138000 x139001 x138002 x138003 x138004 x138005 x139002 x138007 x139000 x139001 x139002 x139003 x139004 x139005 x139006) else ((sync_search.f x138000 x139001 x138002 x138003 x138004 x138005 x139002 x138007).bind fun bt143 => ((sync_aborted.f x138000 x138001 x138002 x138003 x138004 x138005 x138006 x138007 x139001).bind fun t151 => (some (bt143.1, bt143.2.1, bt143.2.2.1, bt143.2.2.2.1, bt143.2.2.2.2.1, bt143.2.2.2.2.2.1, bt143.2.2.2.2.2.2.1, bt143.2.2.2.2.2.2.2, t151))))
def sync_Step.j2 : Nat → ByteArray → Int → Bool → Int → Int → Int → Int → Int → Int → Int → ByteArray → Int → Int → Int → Int → Int → ByteArray → Int → Option (Int × Int × Int × Int × Int × Int × Int × ByteArray × (List (S32)))
 | 0, _, _, _, _, _, _, _, _, _, _, _, _, _, _, _, _, _, _ => none
 | k + 1, x137000, x137001, x137002, x138000, x138001, x138002, x138003, x138004, x138005, x138006, x138007, x139000, x139001, x139002, x139003, x139004, x139005, x139006 => if x138000 = 1 then ((some (([(48 + ((x139003) % 256)) % 256] : List Int) : List Int)).bind fun y176 => (if x138007.size + (strOfNums y176).size ≤ 9223372036854775807 then (if ((x138007 ++ (strOfNums y176)).size : Int) < (wrap64 (8 * x137001)) then (some (x138000, x138001, x138002, x138003, x138004, x138005, x138006, x138007 ++ (strOfNums y176), ([] : List (S32)))) else ((bits_Bytes.f k (x138007 ++ (strOfNums y176)) x137002).bind fun bt179 => ((sync_search.f x138000 x138001 x138002 x138003 x138004 x138005 x138006 (x138007 ++ (strOfNums y176))).bind fun bt181 => (some (bt181.1, bt181.2.1, bt181.2.2.1, bt181.2.2.2.1, bt181.2.2.2.2.1, bt181.2.2.2.2.2.1, bt181.2.2.2.2.2.2.1, bt181.2.2.2.2.2.2.2, (([(⟨5, x138002, x139002, 0, 0, bt179.1, 0⟩ : S32)] : List (S32)))))))) else (none))) else (if x138007.size ≤ 140737488355328 then ((some (bytesOf x138007 : List Int)).bind fun y154 => ((sync_record.f k x139000 x139001 x139002 x139003 x139004 x139005 x139006).bind fun t157 => (if y154.length + t157.length < 140737488355328 then ((sync_last_byte.f (y154 ++ t157) (wrap64 (9 * (x137000.size : Int)))).bind fun t163 => ((sync_found.f k x137000 x137001 x137002 t163).bind fun t166 => (if t166 = true then ((sync_search.f x138000 x138001 x138002 x138003 x138004 x138005 x138006 (strOfNums t163)).bind fun bt167 => ((sync_from.f k t163).bind fun t175 => (some (1, bt167.2.1, t175, bt167.2.2.2.1, bt167.2.2.2.2.1, bt167.2.2.2.2.2.1, bt167.2.2.2.2.2.2.1, bt167.2.2.2.2.2.2.2, ([] : List (S32)))))) else (some (x138000, x138001, x138002, x138003, x138004, x138005, x138006, strOfNums t163, ([] : List (S32))))))) else (none)))) else (none))
end
def sync_Step.f (k : Nat) (a0_0 : ByteArray) (a0_1 : Int) (a0_2 : Bool) (a1_0 : Int) (a1_1 : Int) (a1_2 : Int) (a1_3 : Int) (a1_4 : Int) (a1_5 : Int) (a1_6 : Int) (a1_7 : ByteArray) (a2_0 : Int) (a2_1 : Int) (a2_2 : Int) (a2_3 : Int) (a2_4 : Int) (a2_5 : ByteArray) (a2_6 : Int) : Option (Int × Int × Int × Int × Int × Int × Int × ByteArray × (List (S32))) := (sync_Check.f k a0_0 a0_1 a0_2).bind fun t140 => (if t140 = 0 then ((sync_accepts.f k a1_0 a1_1 a1_2 a1_3 a1_4 a1_5 a1_6 a1_7 a2_0 a2_1 a2_2 a2_3 a2_4 a2_5 a2_6).bind fun t141 => (sync_Step.j0 k (!t141) a0_0 a0_1 a0_2 a1_0 a1_1 a1_2 a1_3 a1_4 a1_5 a1_6 a1_7 a2_0 a2_1 a2_2 a2_3 a2_4 a2_5 a2_6)) else (sync_Step.j0 k true a0_0 a0_1 a0_2 a1_0 a1_1 a1_2 a1_3 a1_4 a1_5 a1_6 a1_7 a2_0 a2_1 a2_2 a2_3 a2_4 a2_5 a2_6))
theorem sync_Step.mono_l : ∀ k, (∀ y0 y1 y2 y3 y4 y5 y6 y7 y8 y9 y10 y11 y12 y13 y14 y15 y16 y17 y18, LeO (sync_Step.j0 k y0 y1 y2 y3 y4 y5 y6 y7 y8 y9 y10 y11 y12 y13 y14 y15 y16 y17 y18) (sync_Step.j0 (k + 1) y0 y1 y2 y3 y4 y5 y6 y7 y8 y9 y10 y11 y12 y13 y14 y15 y16 y17 y18)) ∧ (∀ y0 y1 y2 y3 y4 y5 y6 y7 y8 y9 y10 y11 y12 y13 y14 y15 y16 y17, LeO (sync_Step.j1 k y0 y1 y2 y3 y4 y5 y6 y7 y8 y9 y10 y11 y12 y13 y14 y15 y16 y17) (sync_Step.j1 (k + 1) y0 y1 y2 y3 y4 y5 y6 y7 y8 y9 y10 y11 y12 y13 y14 y15 y16 y17)) ∧ (∀ y0 y1 y2 y3 y4 y5 y6 y7 y8 y9 y10 y11 y12 y13 y14 y15 y16 y17, LeO (sync_Step.j2 k y0 y1 y2 y3 y4 y5 y6 y7 y8 y9 y10 y11 y12 y13 y14 y15 y16 y17) (sync_Step.j2 (k + 1) y0 y1 y2 y3 y4 y5 y6 y7 y8 y9 y10 y11 y12 y13 y14 y15 y16 y17))
 | 0 => ⟨fun _ _ _ _ _ _ _ _ _ _ _ _ _ _ _ _ _ _ _ r h => by simp [sync_Step.j0] at h, fun _ _ _ _ _ _ _ _ _ _ _ _ _ _ _ _ _ _ r h => by simp [sync_Step.j1] at h, fun _ _ _ _ _ _ _ _ _ _ _ _ _ _ _ _ _ _ r h => by simp [sync_Step.j2] at h⟩
 | k + 1 => by
  obtain ⟨ih0, ih1, ih2⟩ := sync_Step.mono_l k
  refine ⟨?_, ?_, ?_⟩
  ·intro y0 y1 y2 y3 y4 y5 y6 y7 y8 y9 y10 y11 y12 y13 y14 y15 y16 y17 y18
   unfold sync_Step.j0
   repeat' first
   | (with_reducible exact ih0 _ _ _ _ _ _ _ _ _ _ _ _ _ _ _ _ _ _ _)
   | (with_reducible exact ih1 _ _ _ _ _ _ _ _ _ _ _ _ _ _ _ _ _ _)
   | (with_reducible exact ih2 _ _ _ _ _ _ _ _ _ _ _ _ _ _ _ _ _ _)
   | (with_reducible exact bits_Bytes.mono _ _ _)
   | (with_reducible exact sync_Check.mono _ _ _ _)
   | (with_reducible exact sync_accepts.mono _ _ _ _ _ _ _ _ _ _ _ _ _ _ _ _)
   | (with_reducible exact sync_found.mono _ _ _ _ _)
   | (with_reducible exact sync_from.mono _ _)
   | (with_reducible exact sync_record.mono _ _ _ _ _ _ _ _)
   | (with_reducible exact LeO.refl _)
   | (with_reducible exact LeO.none _)
   | (with_reducible refine LeO.ite ?_ ?_)
   | (with_reducible refine LeO.bind ?_ (fun _ => ?_))
   | exact ih0 _ _ _ _ _ _ _ _ _ _ _ _ _ _ _ _ _ _ _
   | exact ih1 _ _ _ _ _ _ _ _ _ _ _ _ _ _ _ _ _ _
   | exact ih2 _ _ _ _ _ _ _ _ _ _ _ _ _ _ _ _ _ _
   | exact bits_Bytes.mono _ _ _
   | exact sync_Check.mono _ _ _ _
   | exact sync_accepts.mono _ _ _ _ _ _ _ _ _ _ _ _ _ _ _ _
   | exact sync_found.mono _ _ _ _ _
   | exact sync_from.mono _ _
   | exact sync_record.mono _ _ _ _ _ _ _ _
   | exact LeO.none _
   | refine LeO.ite ?_ ?_
   | refine LeO.bind ?_ (fun _ => ?_)
  ·intro y0 y1 y2 y3 y4 y5 y6 y7 y8 y9 y10 y11 y12 y13 y14 y15 y16 y17
   unfold sync_Step.j1
   repeat' first
   | (with_reducible exact ih0 _ _ _ _ _ _ _ _ _ _ _ _ _ _ _ _ _ _ _)
   | (with_reducible exact ih1 _ _ _ _ _ _ _ _ _ _ _ _ _ _ _ _ _ _)
   | (with_reducible exact ih2 _ _ _ _ _ _ _ _ _ _ _ _ _ _ _ _ _ _)
   | (with_reducible exact bits_Bytes.mono _ _ _)
   | (with_reducible exact sync_Check.mono _ _ _ _)
   | (with_reducible exact sync_accepts.mono _ _ _ _ _ _ _ _ _ _ _ _ _ _ _ _)
   | (with_reducible exact sync_found.mono _ _ _ _ _)
   | (with_reducible exact sync_from.mono _ _)
   | (with_reducible exact sync_record.mono _ _ _ _ _ _ _ _)
   | (with_reducible exact LeO.refl _)
   | (with_reducible exact LeO.none _)
   | (with_reducible refine LeO.ite ?_ ?_)
   | (with_reducible refine LeO.bind ?_ (fun _ => ?_))
   | exact ih0 _ _ _ _ _ _ _ _ _ _ _ _ _ _ _ _ _ _ _
   | exact ih1 _ _ _ _ _ _ _ _ _ _ _ _ _ _ _ _ _ _
   | exact ih2 _ _ _ _ _ _ _ _ _ _ _ _ _ _ _ _ _ _
   | exact bits_Bytes.mono _ _ _
   | exact sync_Check.mono _ _ _ _
   | exact sync_accepts.mono _ _ _ _ _ _ _ _ _ _ _ _ _ _ _ _
   | exact sync_found.mono _ _ _ _ _
   | exact sync_from.mono _ _
   | exact sync_record.mono _ _ _ _ _ _ _ _
   | exact LeO.none _
   | refine LeO.ite ?_ ?_
   | refine LeO.bind ?_ (fun _ => ?_)
  ·intro y0 y1 y2 y3 y4 y5 y6 y7 y8 y9 y10 y11 y12 y13 y14 y15 y16 y17
   unfold sync_Step.j2
   repeat' first
   | (with_reducible exact ih0 _ _ _ _ _ _ _ _ _ _ _ _ _ _ _ _ _ _ _)
   | (with_reducible exact ih1 _ _ _ _ _ _ _ _ _ _ _ _ _ _ _ _ _ _)
   | (with_reducible exact ih2 _ _ _ _ _ _ _ _ _ _ _ _ _ _ _ _ _ _)
   | (with_reducible exact bits_Bytes.mono _ _ _)
   | (with_reducible exact sync_Check.mono _ _ _ _)
   | (with_reducible exact sync_accepts.mono _ _ _ _ _ _ _ _ _ _ _ _ _ _ _ _)
   | (with_reducible exact sync_found.mono _ _ _ _ _)
   | (with_reducible exact sync_from.mono _ _)
   | (with_reducible exact sync_record.mono _ _ _ _ _ _ _ _)
   | (with_reducible exact LeO.refl _)
   | (with_reducible exact LeO.none _)
   | (with_reducible refine LeO.ite ?_ ?_)
   | (with_reducible refine LeO.bind ?_ (fun _ => ?_))
   | exact ih0 _ _ _ _ _ _ _ _ _ _ _ _ _ _ _ _ _ _ _
   | exact ih1 _ _ _ _ _ _ _ _ _ _ _ _ _ _ _ _ _ _
   | exact ih2 _ _ _ _ _ _ _ _ _ _ _ _ _ _ _ _ _ _
   | exact bits_Bytes.mono _ _ _
   | exact sync_Check.mono _ _ _ _
   | exact sync_accepts.mono _ _ _ _ _ _ _ _ _ _ _ _ _ _ _ _
   | exact sync_found.mono _ _ _ _ _
   | exact sync_from.mono _ _
   | exact sync_record.mono _ _ _ _ _ _ _ _
   | exact LeO.none _
   | refine LeO.ite ?_ ?_
   | refine LeO.bind ?_ (fun _ => ?_)
theorem sync_Step.mono : ∀ a0 a1 a2 a3 a4 a5 a6 a7 a8 a9 a10 a11 a12 a13 a14 a15 a16 a17 k, LeO (sync_Step.f k a0 a1 a2 a3 a4 a5 a6 a7 a8 a9 a10 a11 a12 a13 a14 a15 a16 a17) (sync_Step.f (k + 1) a0 a1 a2 a3 a4 a5 a6 a7 a8 a9 a10 a11 a12 a13 a14 a15 a16 a17) := by
 intro a0 a1 a2 a3 a4 a5 a6 a7 a8 a9 a10 a11 a12 a13 a14 a15 a16 a17 k
 obtain ⟨ih0, ih1, ih2⟩ := sync_Step.mono_l k
 unfold sync_Step.f
 repeat' first
   | (with_reducible exact ih0 _ _ _ _ _ _ _ _ _ _ _ _ _ _ _ _ _ _ _)
   | (with_reducible exact ih1 _ _ _ _ _ _ _ _ _ _ _ _ _ _ _ _ _ _)
   | (with_reducible exact ih2 _ _ _ _ _ _ _ _ _ _ _ _ _ _ _ _ _ _)
   | (with_reducible exact bits_Bytes.mono _ _ _)
   | (with_reducible exact sync_Check.mono _ _ _ _)
   | (with_reducible exact sync_accepts.mono _ _ _ _ _ _ _ _ _ _ _ _ _ _ _ _)
   | (with_reducible exact sync_found.mono _ _ _ _ _)
   | (with_reducible exact sync_from.mono _ _)
   | (with_reducible exact sync_record.mono _ _ _ _ _ _ _ _)
   | (with_reducible exact LeO.refl _)
   | (with_reducible exact LeO.none _)
   | (with_reducible refine LeO.ite ?_ ?_)
   | (with_reducible refine LeO.bind ?_ (fun _ => ?_))
   | exact ih0 _ _ _ _ _ _ _ _ _ _ _ _ _ _ _ _ _ _ _
   | exact ih1 _ _ _ _ _ _ _ _ _ _ _ _ _ _ _ _ _ _
   | exact ih2 _ _ _ _ _ _ _ _ _ _ _ _ _ _ _ _ _ _
   | exact bits_Bytes.mono _ _ _
   | exact sync_Check.mono _ _ _ _
   | exact sync_accepts.mono _ _ _ _ _ _ _ _ _ _ _ _ _ _ _ _
   | exact sync_found.mono _ _ _ _ _
   | exact sync_from.mono _ _
   | exact sync_record.mono _ _ _ _ _ _ _ _
   | exact LeO.none _
   | refine LeO.ite ?_ ?_
   | refine LeO.bind ?_ (fun _ => ?_)
def sync_Step.T4 : Bool × List (List Nat × List Nat) := (true, [([], []), ([0], [0]), ([], []), ([2], [2]), ([0, 1], []), ([4, 1, 0, 1], [1, 4]), ([0, 1, 2, 3, 4, 5], []), ([6, 3, 5, 0, 1, 2, 3, 4, 5], [3, 6])])
def sync_Step.B4 : List Nat := [0, 1, 0, 4, 3, 19, 63, 127]
theorem sync_Step.tab4 : rtab .any (opsOf Try.f11 4) = sync_Step.T4 := by kernel_rfl
theorem sync_Step.bits4 : waitsOk sync_Step.T4.2 sync_Step.B4 = true := by kernel_rfl
def sync_Step.T6 : Bool × List (List Nat × List Nat) := (true, [([], []), ([0], [0]), ([], []), ([], []), ([3], [3]), ([2, 4, 1], [2, 4]), ([1, 5, 0, 1], [1]), ([5, 6, 0, 1, 2, 3, 4, 5, 6], [5])])
def sync_Step.B6 : List Nat := [0, 1, 0, 0, 8, 31, 63, 127]
theorem sync_Step.tab6 : rtab .any (opsOf Try.f11 6) = sync_Step.T6 := by kernel_rfl
theorem sync_Step.bits6 : waitsOk sync_Step.T6.2 sync_Step.B6 = true := by kernel_rfl
def sync_Step.T8 : Bool × List (List Nat × List Nat) := (true, [([], []), ([0], [0]), ([1], [1]), ([], []), ([3], [3]), ([2, 4, 4], [2, 4]), ([], []), ([6], [6]), ([7], [7]), ([8], [8]), ([5, 9, 5], [5, 9]), ([10, 10, 0, 1, 2, 3, 4, 5, 6, 7, 8, 9, 10], [10])])
def sync_Step.B8 : List Nat := [0, 1, 3, 0, 8, 31, 0, 64, 192, 448, 1023, 2047]
theorem sync_Step.tab8 : rtab .any (opsOf Try.f11 8) = sync_Step.T8 := by kernel_rfl
theorem sync_Step.bits8 : waitsOk sync_Step.T8.2 sync_Step.B8 = true := by kernel_rfl
def sync_Step.T18 : Bool × List (List Nat × List Nat) := (true, [([], []), ([0], [0]), ([], []), ([2], [2]), ([], []), ([4], [4]), ([], []), ([3, 5, 6], [3, 5, 6]), ([7], [7]), ([1, 1, 0, 1], [1]), ([8, 9, 0, 1, 2, 3, 4, 5, 6, 7, 8, 9], [8])])
def sync_Step.B18 : List Nat := [0, 1, 0, 4, 0, 16, 0, 124, 252, 3, 1023]
theorem sync_Step.tab18 : rtab .any (opsOf Try.f11 18) = sync_Step.T18 := by kernel_rfl
theorem sync_Step.bits18 : waitsOk sync_Step.T18.2 sync_Step.B18 = true := by kernel_rfl
set_option maxHeartbeats 8000000 in
set_option maxRecDepth 100000 in
theorem sync_Step.calls (k : Nat) (a0_0 : ByteArray) (a0_1 : Int) (a0_2 : Bool) (a1_0 : Int) (a1_1 : Int) (a1_2 : Int) (a1_3 : Int) (a1_4 : Int) (a1_5 : Int) (a1_6 : Int) (a1_7 : ByteArray) (a2_0 : Int) (a2_1 : Int) (a2_2 : Int) (a2_3 : Int) (a2_4 : Int) (a2_5 : ByteArray) (a2_6 : Int) (r1 : Int) (r2 : Int) (r3 : Int) (r4 : Int) (r5 : Int) (r6 : Int) (r7 : Int) (r8 : ByteArray) (r9 : List (S32)) (w : World) (h : sync_Step.f k a0_0 a0_1 a0_2 a1_0 a1_1 a1_2 a1_3 a1_4 a1_5 a1_6 a1_7 a2_0 a2_1 a2_2 a2_3 a2_4 a2_5 a2_6 = some (r1, r2, r3, r4, r5, r6, r7, r8, r9)) :
  Calls Try.prog 11 #[.agg #[.string a0_0, .int .i64 a0_1, .bool a0_2], .agg #[.int .i64 a1_0, .int .i64 a1_1, .int .i64 a1_2, .int .i64 a1_3, .int .i64 a1_4, .int .i64 a1_5, .int .i64 a1_6, .string a1_7], .agg #[.int .i64 a2_0, .int .i64 a2_1, .int .i64 a2_2, .int .i64 a2_3, .int .i64 a2_4, .string a2_5, .int .i64 a2_6]] w fun e w' => ∃ v8_ : Value, e = .returned (.tuple #[.agg #[.int .i64 r1, .int .i64 r2, .int .i64 r3, .int .i64 r4, .int .i64 r5, .int .i64 r6, .int .i64 r7, .string r8], v8_]) ∧ Kd.R k32 32 w' w.heap.size (fun _ => True) v8_ r9 ∧ Below w.heap.size w w' := by
 have hu23 := Try.underlying23
 have hu27 := Try.underlying27
 have hu32 := Try.underlying32
 have HB := Aside0.mk (Below.refl w.heap.size w)
 have H : ((sync_Check.f k a0_0 a0_1 a0_2).bind fun t140 => (if t140 = 0 then ((sync_accepts.f k a1_0 a1_1 a1_2 a1_3 a1_4 a1_5 a1_6 a1_7 a2_0 a2_1 a2_2 a2_3 a2_4 a2_5 a2_6).bind fun t141 => (sync_Step.j0 k (!t141) a0_0 a0_1 a0_2 a1_0 a1_1 a1_2 a1_3 a1_4 a1_5 a1_6 a1_7 a2_0 a2_1 a2_2 a2_3 a2_4 a2_5 a2_6)) else (sync_Step.j0 k true a0_0 a0_1 a0_2 a1_0 a1_1 a1_2 a1_3 a1_4 a1_5 a1_6 a1_7 a2_0 a2_1 a2_2 a2_3 a2_4 a2_5 a2_6))) = some (r1, r2, r3, r4, r5, r6, r7, r8, r9) := h
 clear h
 have HC4 := Aside0.mk H
 clear H
 go_enter Try.func11, Try.ntmps11
 go_upto_region 1 with (first | ((with_reducible refine gate_dst (N := 3) rfl ?_); refine box_event ?hg (N := 3) ?hd (cs := #[.string a0_0, .int .i64 a0_1, .bool a0_2]) (t := 23) ?hr ?_; (case hd => rfl); (case hg => rfl); (case hr => first | (go_simp; done) | (go_simp; rfl)); intro gb136 hg w5 hbox hb; have hIS_ := isSome_set; have n0_ := Aside0.mk (below_step (hbw HB.out) hb); have n1_ := Aside0.mk (hbox); have n2_ := Aside0.mk ((by rw [hg]; exact (below_size (hbw HB.out)) : w.heap.size ≤ gb136)); have n3_ := Aside0.mk ((by rw [hg]; exact (below_size (hbw HB.out)) : w.heap.size ≤ gb136)); clear HB; have HB := n0_; have BK136 := n1_; have GW136 := n2_; have GE136 := n3_; clear n0_ n1_ n2_ n3_; clear hb hbox hg) | ((with_reducible refine gate_dst (N := 4) rfl ?_); refine box_event ?hg (N := 4) ?hd (cs := #[.int .i64 a1_0, .int .i64 a1_1, .int .i64 a1_2, .int .i64 a1_3, .int .i64 a1_4, .int .i64 a1_5, .int .i64 a1_6, .string a1_7]) (t := 27) ?hr ?_; (case hd => rfl); (case hg => rfl); (case hr => first | (go_simp; done) | (go_simp; rfl)); intro gb137 hg w6 hbox hb; have hIS_ := isSome_set; have n0_ := Aside0.mk (blkb BK136.out hb); have n1_ := Aside0.mk (below_step (hbw HB.out) hb); have n2_ := Aside0.mk (hbox); have n3_ := Aside0.mk ((by rw [hg]; exact (below_size (hbw HB.out)) : w.heap.size ≤ gb137)); have n4_ := Aside0.mk ((by rw [hg]; exact (below_size (hbw HB.out)) : w.heap.size ≤ gb137)); have n5_ := Aside0.mk ((by rw [hg]; exact Nat.ne_of_lt (blkl BK136.out) : gb136 ≠ gb137)); have n6_ := Aside0.mk ((by rw [hg]; exact Nat.ne_of_gt (blkl BK136.out) : gb137 ≠ gb136)); clear BK136; clear HB; have BK136 := n0_; have HB := n1_; have BK137 := n2_; have GW137 := n3_; have GE137 := n4_; have NB136_137 := n5_; have NB137_136 := n6_; clear n0_ n1_ n2_ n3_ n4_ n5_ n6_; clear hb hbox hg) | ((with_reducible refine gate_dst (N := 5) rfl ?_); refine box_event ?hg (N := 5) ?hd (cs := #[.int .i64 a2_0, .int .i64 a2_1, .int .i64 a2_2, .int .i64 a2_3, .int .i64 a2_4, .string a2_5, .int .i64 a2_6]) (t := 32) ?hr ?_; (case hd => rfl); (case hg => rfl); (case hr => first | (go_simp; done) | (go_simp; rfl)); intro gb138 hg w7 hbox hb; have hIS_ := isSome_set; have n0_ := Aside0.mk (blkb BK136.out hb); have n1_ := Aside0.mk (blkb BK137.out hb); have n2_ := Aside0.mk (below_step (hbw HB.out) hb); have n3_ := Aside0.mk (hbox); have n4_ := Aside0.mk ((by rw [hg]; exact (below_size (hbw HB.out)) : w.heap.size ≤ gb138)); have n5_ := Aside0.mk ((by rw [hg]; exact (below_size (hbw HB.out)) : w.heap.size ≤ gb138)); have n6_ := Aside0.mk ((by rw [hg]; exact Nat.ne_of_lt (blkl BK136.out) : gb136 ≠ gb138)); have n7_ := Aside0.mk ((by rw [hg]; exact Nat.ne_of_gt (blkl BK136.out) : gb138 ≠ gb136)); have n8_ := Aside0.mk ((by rw [hg]; exact Nat.ne_of_lt (blkl BK137.out) : gb137 ≠ gb138)); have n9_ := Aside0.mk ((by rw [hg]; exact Nat.ne_of_gt (blkl BK137.out) : gb138 ≠ gb137)); clear BK136; clear BK137; clear HB; have BK136 := n0_; have BK137 := n1_; have HB := n2_; have BK138 := n3_; have GW138 := n4_; have GE138 := n5_; have NB136_138 := n6_; have NB138_136 := n7_; have NB137_138 := n8_; have NB138_137 := n9_; clear n0_ n1_ n2_ n3_ n4_ n5_ n6_ n7_ n8_ n9_; clear hb hbox hg) | ((with_reducible refine gate_dst (N := 6) rfl ?_); refine box_event ?hg (N := 6) ?hd (cs := #[.int .i64 0, .int .i64 0, .int .i64 0, .int .i64 0, .int .i64 0, .int .i64 0, .int .i64 0, .string (⟨#[]⟩ : ByteArray)]) (t := 27) ?hr ?_; (case hd => rfl); (case hg => rfl); (case hr => first | (go_simp; done) | (go_simp; rfl)); intro gb139 hg w8 hbox hb; have hIS_ := isSome_set; have n0_ := Aside0.mk (blkb BK136.out hb); have n1_ := Aside0.mk (blkb BK137.out hb); have n2_ := Aside0.mk (blkb BK138.out hb); have n3_ := Aside0.mk (below_step (hbw HB.out) hb); have n4_ := Aside0.mk (hbox); have n5_ := Aside0.mk ((by rw [hg]; exact (below_size (hbw HB.out)) : w.heap.size ≤ gb139)); have n6_ := Aside0.mk ((by rw [hg]; exact (below_size (hbw HB.out)) : w.heap.size ≤ gb139)); have n7_ := Aside0.mk ((by rw [hg]; exact Nat.ne_of_lt (blkl BK136.out) : gb136 ≠ gb139)); have n8_ := Aside0.mk ((by rw [hg]; exact Nat.ne_of_gt (blkl BK136.out) : gb139 ≠ gb136)); have n9_ := Aside0.mk ((by rw [hg]; exact Nat.ne_of_lt (blkl BK137.out) : gb137 ≠ gb139)); have n10_ := Aside0.mk ((by rw [hg]; exact Nat.ne_of_gt (blkl BK137.out) : gb139 ≠ gb137)); have n11_ := Aside0.mk ((by rw [hg]; exact Nat.ne_of_lt (blkl BK138.out) : gb138 ≠ gb139)); have n12_ := Aside0.mk ((by rw [hg]; exact Nat.ne_of_gt (blkl BK138.out) : gb139 ≠ gb138)); clear BK136; clear BK137; clear BK138; clear HB; have BK136 := n0_; have BK137 := n1_; have BK138 := n2_; have HB := n3_; have BK139 := n4_; have GW139 := n5_; have GE139 := n6_; have NB136_139 := n7_; have NB139_136 := n8_; have NB137_139 := n9_; have NB139_137 := n10_; have NB138_139 := n11_; have NB139_138 := n12_; clear n0_ n1_ n2_ n3_ n4_ n5_ n6_ n7_ n8_ n9_ n10_ n11_ n12_; clear hb hbox hg))
 (try simp only [Act.put, List.setIfInBounds_toArray, List.set_cons_zero, List.set_cons_succ])
 go_cut [20] (fun v20 wc => ∃ (kq : Nat) (x20_3 : Bool), v20 = .bool x20_3 ∧ Aside0 (sync_Step.j0 kq x20_3 a0_0 a0_1 a0_2 a1_0 a1_1 a1_2 a1_3 a1_4 a1_5 a1_6 a1_7 a2_0 a2_1 a2_2 a2_3 a2_4 a2_5 a2_6 = some (r1, r2, r3, r4, r5, r6, r7, r8, r9)) ∧ Aside0 (kq ≤ k) ∧ Aside0 (wc.heap[gb136]? = some (.cells #[.string a0_0, .int .i64 a0_1, .bool a0_2] 23 (0, 0))) ∧ Aside0 (wc.heap[gb137]? = some (.cells #[.int .i64 a1_0, .int .i64 a1_1, .int .i64 a1_2, .int .i64 a1_3, .int .i64 a1_4, .int .i64 a1_5, .int .i64 a1_6, .string a1_7] 27 (0, 0))) ∧ Aside0 (wc.heap[gb138]? = some (.cells #[.int .i64 a2_0, .int .i64 a2_1, .int .i64 a2_2, .int .i64 a2_3, .int .i64 a2_4, .string a2_5, .int .i64 a2_6] 32 (0, 0))) ∧ Aside0 (wc.heap[gb139]? = some (.cells #[.int .i64 0, .int .i64 0, .int .i64 0, .int .i64 0, .int .i64 0, .int .i64 0, .int .i64 0, .string (⟨#[]⟩ : ByteArray)] 27 (0, 0))) ∧ Aside0 (Below w.heap.size w wc))
 case first =>
  have H := HC4.out
  clear HC4
  replace H := Option.bind_eq_some_iff.mp H
  obtain ⟨t140, A90, H⟩ := H
  replace H : (if t140 = 0 then ((sync_accepts.f k a1_0 a1_1 a1_2 a1_3 a1_4 a1_5 a1_6 a1_7 a2_0 a2_1 a2_2 a2_3 a2_4 a2_5 a2_6).bind fun t141 => (sync_Step.j0 k (!t141) a0_0 a0_1 a0_2 a1_0 a1_1 a1_2 a1_3 a1_4 a1_5 a1_6 a1_7 a2_0 a2_1 a2_2 a2_3 a2_4 a2_5 a2_6)) else (sync_Step.j0 k true a0_0 a0_1 a0_2 a1_0 a1_1 a1_2 a1_3 a1_4 a1_5 a1_6 a1_7 a2_0 a2_1 a2_2 a2_3 a2_4 a2_5 a2_6)) = some (r1, r2, r3, r4, r5, r6, r7, r8, r9) := H
  have A9 := Aside0.mk A90
  clear A90
  by_cases c10 : t140 = 0
  ·rw [if_pos c10] at H
   have c10b0 : (t140 == 0) = true := beq_iff_eq.mpr c10
   have c10b1 : (t140 != 0) = false := bne_eq_false_iff_eq.mpr c10
   clear c10
   (first | rw [c10b0] | (simp only [i64_w, i32_w]; rw [c10b0]) | skip)
   replace H := Option.bind_eq_some_iff.mp H
   obtain ⟨t141, A110, H⟩ := H
   replace H : (sync_Step.j0 k (!t141) a0_0 a0_1 a0_2 a1_0 a1_1 a1_2 a1_3 a1_4 a1_5 a1_6 a1_7 a2_0 a2_1 a2_2 a2_3 a2_4 a2_5 a2_6) = some (r1, r2, r3, r4, r5, r6, r7, r8, r9) := H
   have A11 := Aside0.mk A110
   clear A110
   have H' := Aside0.mk H
   clear H
   have hnb12 := NB136_137.out
   have hnc12 := NB137_136.out
   have hnb13 := NB136_138.out
   have hnc13 := NB138_136.out
   have hnb14 := NB136_139.out
   have hnc14 := NB139_136.out
   have hcz15_0 : w8.cell? ⟨gb136, 0, none⟩ = some (.string a0_0) := (blk_cell BK136.out 0).trans rfl
   have hcz15_1 : w8.cell? ⟨gb136, 1, none⟩ = some (.int .i64 a0_1) := (blk_cell BK136.out 1).trans rfl
   have hcz15_2 : w8.cell? ⟨gb136, 2, none⟩ = some (.bool a0_2) := (blk_cell BK136.out 2).trans rfl
   have hfz15_0 := blk_frozen BK136.out 0
   have hfz15_1 := blk_frozen BK136.out 1
   have hfz15_2 := blk_frozen BK136.out 2
   go_wp2_with (first | ((with_reducible refine gate_callee (f := 21) rfl ?_); refine goesL_ (some 13) rfl rfl Try.func21 (by kernel_rfl) rfl #[.agg #[.string a0_0, .int .i64 a0_1, .bool a0_2]] rfl (by (try simp only [List.map_toArray, List.map_cons, List.map_nil]); first | done | rfl | (simp only [List.length_drop, List.length_take]; rfl)) ?_; (with_reducible refine (sync_Check.calls k a0_0 a0_1 a0_2 t140 _ A9.out).mono ?_); rintro e w16 ⟨rfl, hb⟩; refine ⟨_, rfl, ?_⟩; have n0_ := Aside0.mk (blkb BK136.out hb); have n1_ := Aside0.mk (blkb BK137.out hb); have n2_ := Aside0.mk (blkb BK138.out hb); have n3_ := Aside0.mk (blkb BK139.out hb); have n4_ := Aside0.mk (below_step (hbw HB.out) hb); clear BK136; clear BK137; clear BK138; clear BK139; clear HB; have BK136 := n0_; have BK137 := n1_; have BK138 := n2_; have BK139 := n3_; have HB := n4_; clear n0_ n1_ n2_ n3_ n4_; (try clear hb); (try clear hb2); (try clear hk); (try clear hi); have hnb17 := NB137_138.out; have hnc17 := NB138_137.out; have hnb18 := NB137_139.out; have hnc18 := NB139_137.out; have hcz19_0 : w16.cell? ⟨gb137, 0, none⟩ = some (.int .i64 a1_0) := (blk_cell BK137.out 0).trans rfl; have hcz19_1 : w16.cell? ⟨gb137, 1, none⟩ = some (.int .i64 a1_1) := (blk_cell BK137.out 1).trans rfl; have hcz19_2 : w16.cell? ⟨gb137, 2, none⟩ = some (.int .i64 a1_2) := (blk_cell BK137.out 2).trans rfl; have hcz19_3 : w16.cell? ⟨gb137, 3, none⟩ = some (.int .i64 a1_3) := (blk_cell BK137.out 3).trans rfl; have hcz19_4 : w16.cell? ⟨gb137, 4, none⟩ = some (.int .i64 a1_4) := (blk_cell BK137.out 4).trans rfl; have hcz19_5 : w16.cell? ⟨gb137, 5, none⟩ = some (.int .i64 a1_5) := (blk_cell BK137.out 5).trans rfl; have hcz19_6 : w16.cell? ⟨gb137, 6, none⟩ = some (.int .i64 a1_6) := (blk_cell BK137.out 6).trans rfl; have hcz19_7 : w16.cell? ⟨gb137, 7, none⟩ = some (.string a1_7) := (blk_cell BK137.out 7).trans rfl; have hfz19_0 := blk_frozen BK137.out 0; have hfz19_1 := blk_frozen BK137.out 1; have hfz19_2 := blk_frozen BK137.out 2; have hfz19_3 := blk_frozen BK137.out 3; have hfz19_4 := blk_frozen BK137.out 4; have hfz19_5 := blk_frozen BK137.out 5; have hfz19_6 := blk_frozen BK137.out 6; have hfz19_7 := blk_frozen BK137.out 7; have hnb20 := NB138_139.out; have hnc20 := NB139_138.out; have hcz21_0 : w16.cell? ⟨gb138, 0, none⟩ = some (.int .i64 a2_0) := (blk_cell BK138.out 0).trans rfl; have hcz21_1 : w16.cell? ⟨gb138, 1, none⟩ = some (.int .i64 a2_1) := (blk_cell BK138.out 1).trans rfl; have hcz21_2 : w16.cell? ⟨gb138, 2, none⟩ = some (.int .i64 a2_2) := (blk_cell BK138.out 2).trans rfl; have hcz21_3 : w16.cell? ⟨gb138, 3, none⟩ = some (.int .i64 a2_3) := (blk_cell BK138.out 3).trans rfl; have hcz21_4 : w16.cell? ⟨gb138, 4, none⟩ = some (.int .i64 a2_4) := (blk_cell BK138.out 4).trans rfl; have hcz21_5 : w16.cell? ⟨gb138, 5, none⟩ = some (.string a2_5) := (blk_cell BK138.out 5).trans rfl; have hcz21_6 : w16.cell? ⟨gb138, 6, none⟩ = some (.int .i64 a2_6) := (blk_cell BK138.out 6).trans rfl; have hfz21_0 := blk_frozen BK138.out 0; have hfz21_1 := blk_frozen BK138.out 1; have hfz21_2 := blk_frozen BK138.out 2; have hfz21_3 := blk_frozen BK138.out 3; have hfz21_4 := blk_frozen BK138.out 4; have hfz21_5 := blk_frozen BK138.out 5; have hfz21_6 := blk_frozen BK138.out 6) | (go_at_call 26; (with_reducible refine (sync_accepts.calls k a1_0 a1_1 a1_2 a1_3 a1_4 a1_5 a1_6 a1_7 a2_0 a2_1 a2_2 a2_3 a2_4 a2_5 a2_6 t141 _ A11.out).mono ?_); rintro e w22 ⟨rfl, hb⟩; have n0_ := Aside0.mk (blkb BK136.out hb); have n1_ := Aside0.mk (blkb BK137.out hb); have n2_ := Aside0.mk (blkb BK138.out hb); have n3_ := Aside0.mk (blkb BK139.out hb); have n4_ := Aside0.mk (below_step (hbw HB.out) hb); clear BK136; clear BK137; clear BK138; clear BK139; clear HB; have BK136 := n0_; have BK137 := n1_; have BK138 := n2_; have BK139 := n3_; have HB := n4_; clear n0_ n1_ n2_ n3_ n4_; (try clear hb); (try clear hb2); (try clear hk); (try clear hi)))
   go_meet
   case rel => exact ⟨_, (!t141), (by first | rfl | (simp; done) | (simp [*]; done)), H', ⟨by first | omega | exact Nat.le_refl _⟩, ⟨by (with_reducible repeat (first | refine blk_drewN ?_ _ | refine blk_drew ?_ | refine blk_alloc ?_ _)); exact BK136.out⟩, ⟨by (with_reducible repeat (first | refine blk_drewN ?_ _ | refine blk_drew ?_ | refine blk_alloc ?_ _)); exact BK137.out⟩, ⟨by (with_reducible repeat (first | refine blk_drewN ?_ _ | refine blk_drew ?_ | refine blk_alloc ?_ _)); exact BK138.out⟩, ⟨by (with_reducible repeat (first | refine blk_drewN ?_ _ | refine blk_drew ?_ | refine blk_alloc ?_ _)); exact BK139.out⟩, ⟨by repeat (first | (with_reducible first | exact HB.out | apply below_alloc | apply pw_below_drewN | apply below_drew1 | refine below_set ?_ GE136.out | refine below_set ?_ GE137.out | refine below_set ?_ GE138.out | refine below_set ?_ GE139.out) | exact HB.out)⟩⟩
  ·rw [if_neg c10] at H
   have c10b0 : (t140 == 0) = false := beq_eq_false_iff_ne.mpr c10
   have c10b1 : (t140 != 0) = true := bne_iff_ne.mpr c10
   (first | rw [c10b0] | (simp only [i64_w, i32_w]; rw [c10b0]) | skip)
   have H' := Aside0.mk H
   clear H
   have hnb23 := NB136_137.out
   have hnc23 := NB137_136.out
   have hnb24 := NB136_138.out
   have hnc24 := NB138_136.out
   have hnb25 := NB136_139.out
   have hnc25 := NB139_136.out
   have hcz26_0 : w8.cell? ⟨gb136, 0, none⟩ = some (.string a0_0) := (blk_cell BK136.out 0).trans rfl
   have hcz26_1 : w8.cell? ⟨gb136, 1, none⟩ = some (.int .i64 a0_1) := (blk_cell BK136.out 1).trans rfl
   have hcz26_2 : w8.cell? ⟨gb136, 2, none⟩ = some (.bool a0_2) := (blk_cell BK136.out 2).trans rfl
   have hfz26_0 := blk_frozen BK136.out 0
   have hfz26_1 := blk_frozen BK136.out 1
   have hfz26_2 := blk_frozen BK136.out 2
   go_wp2_with (first | ((with_reducible refine gate_callee (f := 21) rfl ?_); refine goesL_ (some 13) rfl rfl Try.func21 (by kernel_rfl) rfl #[.agg #[.string a0_0, .int .i64 a0_1, .bool a0_2]] rfl (by (try simp only [List.map_toArray, List.map_cons, List.map_nil]); first | done | rfl | (simp only [List.length_drop, List.length_take]; rfl)) ?_; (with_reducible refine (sync_Check.calls k a0_0 a0_1 a0_2 t140 _ A9.out).mono ?_); rintro e w27 ⟨rfl, hb⟩; refine ⟨_, rfl, ?_⟩; have n0_ := Aside0.mk (blkb BK136.out hb); have n1_ := Aside0.mk (blkb BK137.out hb); have n2_ := Aside0.mk (blkb BK138.out hb); have n3_ := Aside0.mk (blkb BK139.out hb); have n4_ := Aside0.mk (below_step (hbw HB.out) hb); clear BK136; clear BK137; clear BK138; clear BK139; clear HB; have BK136 := n0_; have BK137 := n1_; have BK138 := n2_; have BK139 := n3_; have HB := n4_; clear n0_ n1_ n2_ n3_ n4_; (try clear hb); (try clear hb2); (try clear hk); (try clear hi)))
   go_meet
   case rel => exact ⟨_, (true), (by first | rfl | (simp; done) | (simp [*]; done)), H', ⟨by first | omega | exact Nat.le_refl _⟩, ⟨by (with_reducible repeat (first | refine blk_drewN ?_ _ | refine blk_drew ?_ | refine blk_alloc ?_ _)); exact BK136.out⟩, ⟨by (with_reducible repeat (first | refine blk_drewN ?_ _ | refine blk_drew ?_ | refine blk_alloc ?_ _)); exact BK137.out⟩, ⟨by (with_reducible repeat (first | refine blk_drewN ?_ _ | refine blk_drew ?_ | refine blk_alloc ?_ _)); exact BK138.out⟩, ⟨by (with_reducible repeat (first | refine blk_drewN ?_ _ | refine blk_drew ?_ | refine blk_alloc ?_ _)); exact BK139.out⟩, ⟨by repeat (first | (with_reducible first | exact HB.out | apply below_alloc | apply pw_below_drewN | apply below_drew1 | refine below_set ?_ GE136.out | refine below_set ?_ GE137.out | refine below_set ?_ GE138.out | refine below_set ?_ GE139.out) | exact HB.out)⟩⟩
 case rest =>
  clear HC4
  try clear c1
  try clear c2
  try clear p2
  try clear c10
  try clear c10b0
  try clear c10b1
  try clear c11
  try clear c12
  try clear c13
  try clear c14
  try clear c17
  try clear c18
  try clear c20
  try clear c21
  try clear c23
  try clear c24
  try clear c25
  try clear hcz15_0
  try clear hcz15_1
  try clear hcz15_2
  try clear hcz19_0
  try clear hcz19_1
  try clear hcz19_2
  try clear hcz19_3
  try clear hcz19_4
  try clear hcz19_5
  try clear hcz19_6
  try clear hcz19_7
  try clear hcz21_0
  try clear hcz21_1
  try clear hcz21_2
  try clear hcz21_3
  try clear hcz21_4
  try clear hcz21_5
  try clear hcz21_6
  try clear hcz26_0
  try clear hcz26_1
  try clear hcz26_2
  try clear hfz15_0
  try clear hfz15_1
  try clear hfz15_2
  try clear hfz19_0
  try clear hfz19_1
  try clear hfz19_2
  try clear hfz19_3
  try clear hfz19_4
  try clear hfz19_5
  try clear hfz19_6
  try clear hfz19_7
  try clear hfz21_0
  try clear hfz21_1
  try clear hfz21_2
  try clear hfz21_3
  try clear hfz21_4
  try clear hfz21_5
  try clear hfz21_6
  try clear hfz26_0
  try clear hfz26_1
  try clear hfz26_2
  obtain ⟨kq, x20_3, rfl, HA, HJ3, BK136, BK137, BK138, BK139, HB⟩ := hcut
  cases kq with
  | zero => exact absurd HA.out (by simp [sync_Step.j0])
  | succ kj3 =>
   have H := HA.out
   clear HA
   simp only [sync_Step.j0] at H
   have HC28 := Aside0.mk H
   clear H
   go_upto_if 20 with (fail)
   go_cut [] (fun wc => ∃ (kq : Nat) (x140000_27 : Int) (x140001_27 : Int) (x140002_27 : Int) (x140003_27 : Int) (x140004_27 : Int) (x140005_27 : Int) (x140006_27 : Int) (x140007_27 : ByteArray), Aside0 (sync_Step.j1 kq a0_0 a0_1 a0_2 a1_0 a1_1 a1_2 a1_3 a1_4 a1_5 a1_6 a1_7 a2_0 a2_1 a2_2 a2_3 a2_4 a2_5 a2_6 = some (r1, r2, r3, r4, r5, r6, r7, r8, r9)) ∧ Aside0 (kq ≤ kj3) ∧ Aside0 (wc.heap[gb136]? = some (.cells #[.string a0_0, .int .i64 a0_1, .bool a0_2] 23 (0, 0))) ∧ Aside0 (wc.heap[gb137]? = some (.cells #[.int .i64 a1_0, .int .i64 a1_1, .int .i64 a1_2, .int .i64 a1_3, .int .i64 a1_4, .int .i64 a1_5, .int .i64 a1_6, .string a1_7] 27 (0, 0))) ∧ Aside0 (wc.heap[gb138]? = some (.cells #[.int .i64 a2_0, .int .i64 a2_1, .int .i64 a2_2, .int .i64 a2_3, .int .i64 a2_4, .string a2_5, .int .i64 a2_6] 32 (0, 0))) ∧ Aside0 (wc.heap[gb139]? = some (.cells #[.int .i64 x140000_27, .int .i64 x140001_27, .int .i64 x140002_27, .int .i64 x140003_27, .int .i64 x140004_27, .int .i64 x140005_27, .int .i64 x140006_27, .string x140007_27] 27 (0, 0))) ∧ Aside0 (Below w.heap.size w wc))
   case first =>
    have H := HC28.out
    clear HC28
    by_cases c29 : x20_3 = true
    ·subst c29
     have H1 : (some (a1_0, a1_1, a1_2, a1_3, a1_4, a1_5, a1_6, a1_7, ([] : List (S32)))) = some (r1, r2, r3, r4, r5, r6, r7, r8, r9) := by rw [if_pos rfl] at H; exact H
     clear H
     have H := H1
     clear H1
     simp only [Option.some.injEq, Prod.mk.injEq] at H
     obtain ⟨rfl, rfl, rfl, rfl, rfl, rfl, rfl, rfl, rfl⟩ := H
     have hnb30 := NB137_136.out
     have hnc30 := NB136_137.out
     have hnb31 := NB137_138.out
     have hnc31 := NB138_137.out
     have hnb32 := NB137_139.out
     have hnc32 := NB139_137.out
     have hcz33_0 : wc.cell? ⟨gb137, 0, none⟩ = some (.int .i64 a1_0) := (blk_cell BK137.out 0).trans rfl
     have hcz33_1 : wc.cell? ⟨gb137, 1, none⟩ = some (.int .i64 a1_1) := (blk_cell BK137.out 1).trans rfl
     have hcz33_2 : wc.cell? ⟨gb137, 2, none⟩ = some (.int .i64 a1_2) := (blk_cell BK137.out 2).trans rfl
     have hcz33_3 : wc.cell? ⟨gb137, 3, none⟩ = some (.int .i64 a1_3) := (blk_cell BK137.out 3).trans rfl
     have hcz33_4 : wc.cell? ⟨gb137, 4, none⟩ = some (.int .i64 a1_4) := (blk_cell BK137.out 4).trans rfl
     have hcz33_5 : wc.cell? ⟨gb137, 5, none⟩ = some (.int .i64 a1_5) := (blk_cell BK137.out 5).trans rfl
     have hcz33_6 : wc.cell? ⟨gb137, 6, none⟩ = some (.int .i64 a1_6) := (blk_cell BK137.out 6).trans rfl
     have hcz33_7 : wc.cell? ⟨gb137, 7, none⟩ = some (.string a1_7) := (blk_cell BK137.out 7).trans rfl
     have hfz33_0 := blk_frozen BK137.out 0
     have hfz33_1 := blk_frozen BK137.out 1
     have hfz33_2 := blk_frozen BK137.out 2
     have hfz33_3 := blk_frozen BK137.out 3
     have hfz33_4 := blk_frozen BK137.out 4
     have hfz33_5 := blk_frozen BK137.out 5
     have hfz33_6 := blk_frozen BK137.out 6
     have hfz33_7 := blk_frozen BK137.out 7
     have hnb34 := NB139_136.out
     have hnc34 := NB136_139.out
     have hnb35 := NB139_138.out
     have hnc35 := NB138_139.out
     have hcz36_0 : wc.cell? ⟨gb139, 0, none⟩ = some (.int .i64 0) := (blk_cell BK139.out 0).trans rfl
     have hcz36_1 : wc.cell? ⟨gb139, 1, none⟩ = some (.int .i64 0) := (blk_cell BK139.out 1).trans rfl
     have hcz36_2 : wc.cell? ⟨gb139, 2, none⟩ = some (.int .i64 0) := (blk_cell BK139.out 2).trans rfl
     have hcz36_3 : wc.cell? ⟨gb139, 3, none⟩ = some (.int .i64 0) := (blk_cell BK139.out 3).trans rfl
     have hcz36_4 : wc.cell? ⟨gb139, 4, none⟩ = some (.int .i64 0) := (blk_cell BK139.out 4).trans rfl
     have hcz36_5 : wc.cell? ⟨gb139, 5, none⟩ = some (.int .i64 0) := (blk_cell BK139.out 5).trans rfl
     have hcz36_6 : wc.cell? ⟨gb139, 6, none⟩ = some (.int .i64 0) := (blk_cell BK139.out 6).trans rfl
     have hcz36_7 : wc.cell? ⟨gb139, 7, none⟩ = some (.string (⟨#[]⟩ : ByteArray)) := (blk_cell BK139.out 7).trans rfl
     have hfz36_0 := blk_frozen BK139.out 0
     have hfz36_1 := blk_frozen BK139.out 1
     have hfz36_2 := blk_frozen BK139.out 2
     have hfz36_3 := blk_frozen BK139.out 3
     have hfz36_4 := blk_frozen BK139.out 4
     have hfz36_5 := blk_frozen BK139.out 5
     have hfz36_6 := blk_frozen BK139.out 6
     have hfz36_7 := blk_frozen BK139.out 7
     go_wp2
     refine bodyPost_ret (results_ct rfl _ _ gb139 27 #[.int .i64 a1_0, .int .i64 a1_1, .int .i64 a1_2, .int .i64 a1_3, .int .i64 a1_4, .int .i64 a1_5, .int .i64 a1_6, .string a1_7] (0, 0) _ rfl (by (with_reducible repeat (first | refine blk_drewN ?_ _ | refine blk_drew ?_ | refine blk_alloc ?_ _)); refine blk_put (cs := #[.int .i64 a1_0, .int .i64 a1_1, .int .i64 a1_2, .int .i64 a1_3, .int .i64 a1_4, .int .i64 a1_5, .int .i64 a1_6, .string (⟨#[]⟩ : ByteArray)]) ?_ 7 _ rfl; (with_reducible repeat (first | refine blk_drewN ?_ _ | refine blk_drew ?_ | refine blk_alloc ?_ _)); refine blk_put (cs := #[.int .i64 a1_0, .int .i64 a1_1, .int .i64 a1_2, .int .i64 a1_3, .int .i64 a1_4, .int .i64 a1_5, .int .i64 0, .string (⟨#[]⟩ : ByteArray)]) ?_ 6 _ rfl; (with_reducible repeat (first | refine blk_drewN ?_ _ | refine blk_drew ?_ | refine blk_alloc ?_ _)); refine blk_put (cs := #[.int .i64 a1_0, .int .i64 a1_1, .int .i64 a1_2, .int .i64 a1_3, .int .i64 a1_4, .int .i64 0, .int .i64 0, .string (⟨#[]⟩ : ByteArray)]) ?_ 5 _ rfl; (with_reducible repeat (first | refine blk_drewN ?_ _ | refine blk_drew ?_ | refine blk_alloc ?_ _)); refine blk_put (cs := #[.int .i64 a1_0, .int .i64 a1_1, .int .i64 a1_2, .int .i64 a1_3, .int .i64 0, .int .i64 0, .int .i64 0, .string (⟨#[]⟩ : ByteArray)]) ?_ 4 _ rfl; (with_reducible repeat (first | refine blk_drewN ?_ _ | refine blk_drew ?_ | refine blk_alloc ?_ _)); refine blk_put (cs := #[.int .i64 a1_0, .int .i64 a1_1, .int .i64 a1_2, .int .i64 0, .int .i64 0, .int .i64 0, .int .i64 0, .string (⟨#[]⟩ : ByteArray)]) ?_ 3 _ rfl; (with_reducible repeat (first | refine blk_drewN ?_ _ | refine blk_drew ?_ | refine blk_alloc ?_ _)); refine blk_put (cs := #[.int .i64 a1_0, .int .i64 a1_1, .int .i64 0, .int .i64 0, .int .i64 0, .int .i64 0, .int .i64 0, .string (⟨#[]⟩ : ByteArray)]) ?_ 2 _ rfl; (with_reducible repeat (first | refine blk_drewN ?_ _ | refine blk_drew ?_ | refine blk_alloc ?_ _)); refine blk_put (cs := #[.int .i64 a1_0, .int .i64 0, .int .i64 0, .int .i64 0, .int .i64 0, .int .i64 0, .int .i64 0, .string (⟨#[]⟩ : ByteArray)]) ?_ 1 _ rfl; (with_reducible repeat (first | refine blk_drewN ?_ _ | refine blk_drew ?_ | refine blk_alloc ?_ _)); refine blk_put (cs := #[.int .i64 0, .int .i64 0, .int .i64 0, .int .i64 0, .int .i64 0, .int .i64 0, .int .i64 0, .string (⟨#[]⟩ : ByteArray)]) ?_ 0 _ rfl; (with_reducible repeat (first | refine blk_drewN ?_ _ | refine blk_drew ?_ | refine blk_alloc ?_ _)); exact BK139.out) Try.underlying27 rfl (by kernel_rfl)) rfl ?_
     exact ⟨_, by first | rfl | (simp [errW_none, errW_some] <;> rfl) | (simp [*, errW_none, errW_some] <;> rfl), by first | exact Kd.R_nil _ _ _ _ _ | exact Kd.N_nil _ _ _ _ _ | exact Kd.V_nil _ _ _ _ _ | exact Kd.Q_nil _ _ _ _ _ | exact Kd.S_nil _ _ _ _ _, by repeat (first | (with_reducible first | exact HB.out | apply below_alloc | apply pw_below_drewN | apply below_drew1 | refine below_set ?_ GE136.out | refine below_set ?_ GE137.out | refine below_set ?_ GE138.out | refine below_set ?_ GE139.out) | exact HB.out)⟩
    ·replace c29 := Bool.eq_false_iff.mpr c29
     subst c29
     have H1 : (sync_Step.j1 kj3 a0_0 a0_1 a0_2 a1_0 a1_1 a1_2 a1_3 a1_4 a1_5 a1_6 a1_7 a2_0 a2_1 a2_2 a2_3 a2_4 a2_5 a2_6) = some (r1, r2, r3, r4, r5, r6, r7, r8, r9) := by rw [if_neg (show ¬ (false = true) by decide)] at H; exact H
     clear H
     have H := H1
     clear H1
     have H' := Aside0.mk H
     clear H
     go_wp2
     go_meet
     case rel => exact ⟨_, (0), (0), (0), (0), (0), (0), (0), ((⟨#[]⟩ : ByteArray)), H', ⟨by have := HJ3.out; first | omega | exact Nat.le_refl _⟩, ⟨by (with_reducible repeat (first | refine blk_drewN ?_ _ | refine blk_drew ?_ | refine blk_alloc ?_ _)); exact BK136.out⟩, ⟨by (with_reducible repeat (first | refine blk_drewN ?_ _ | refine blk_drew ?_ | refine blk_alloc ?_ _)); exact BK137.out⟩, ⟨by (with_reducible repeat (first | refine blk_drewN ?_ _ | refine blk_drew ?_ | refine blk_alloc ?_ _)); exact BK138.out⟩, ⟨by (with_reducible repeat (first | refine blk_drewN ?_ _ | refine blk_drew ?_ | refine blk_alloc ?_ _)); exact BK139.out⟩, ⟨by repeat (first | (with_reducible first | exact HB.out | apply below_alloc | apply pw_below_drewN | apply below_drew1 | refine below_set ?_ GE136.out | refine below_set ?_ GE137.out | refine below_set ?_ GE138.out | refine below_set ?_ GE139.out) | exact HB.out)⟩⟩
   case rest =>
    clear HC28
    try clear c1
    try clear c2
    try clear p2
    try clear c3
    try clear c10
    try clear c10b0
    try clear c10b1
    try clear c11
    try clear c12
    try clear c13
    try clear c14
    try clear c17
    try clear c18
    try clear c20
    try clear c21
    try clear c23
    try clear c24
    try clear c25
    try clear c29
    try clear c30
    try clear c31
    try clear c32
    try clear c34
    try clear c35
    try clear hcz15_0
    try clear hcz15_1
    try clear hcz15_2
    try clear hcz19_0
    try clear hcz19_1
    try clear hcz19_2
    try clear hcz19_3
    try clear hcz19_4
    try clear hcz19_5
    try clear hcz19_6
    try clear hcz19_7
    try clear hcz21_0
    try clear hcz21_1
    try clear hcz21_2
    try clear hcz21_3
    try clear hcz21_4
    try clear hcz21_5
    try clear hcz21_6
    try clear hcz26_0
    try clear hcz26_1
    try clear hcz26_2
    try clear hcz33_0
    try clear hcz33_1
    try clear hcz33_2
    try clear hcz33_3
    try clear hcz33_4
    try clear hcz33_5
    try clear hcz33_6
    try clear hcz33_7
    try clear hcz36_0
    try clear hcz36_1
    try clear hcz36_2
    try clear hcz36_3
    try clear hcz36_4
    try clear hcz36_5
    try clear hcz36_6
    try clear hcz36_7
    try clear hfz15_0
    try clear hfz15_1
    try clear hfz15_2
    try clear hfz19_0
    try clear hfz19_1
    try clear hfz19_2
    try clear hfz19_3
    try clear hfz19_4
    try clear hfz19_5
    try clear hfz19_6
    try clear hfz19_7
    try clear hfz21_0
    try clear hfz21_1
    try clear hfz21_2
    try clear hfz21_3
    try clear hfz21_4
    try clear hfz21_5
    try clear hfz21_6
    try clear hfz26_0
    try clear hfz26_1
    try clear hfz26_2
    try clear hfz33_0
    try clear hfz33_1
    try clear hfz33_2
    try clear hfz33_3
    try clear hfz33_4
    try clear hfz33_5
    try clear hfz33_6
    try clear hfz33_7
    try clear hfz36_0
    try clear hfz36_1
    try clear hfz36_2
    try clear hfz36_3
    try clear hfz36_4
    try clear hfz36_5
    try clear hfz36_6
    try clear hfz36_7
    try clear p2
    obtain ⟨kq, x140000_27, x140001_27, x140002_27, x140003_27, x140004_27, x140005_27, x140006_27, x140007_27, HA, HJ27, BK136, BK137, BK138, BK139, HB⟩ := hcut
    cases kq with
    | zero => exact absurd HA.out (by simp [sync_Step.j1])
    | succ kj27 =>
     have H := HA.out
     clear HA
     simp only [sync_Step.j1] at H
     have HC37 := Aside0.mk H
     clear H
     have hnb38 := NB137_136.out
     have hnc38 := NB136_137.out
     have hnb39 := NB137_138.out
     have hnc39 := NB138_137.out
     have hnb40 := NB137_139.out
     have hnc40 := NB139_137.out
     have hcz41_0 : wc.cell? ⟨gb137, 0, none⟩ = some (.int .i64 a1_0) := (blk_cell BK137.out 0).trans rfl
     have hcz41_1 : wc.cell? ⟨gb137, 1, none⟩ = some (.int .i64 a1_1) := (blk_cell BK137.out 1).trans rfl
     have hcz41_2 : wc.cell? ⟨gb137, 2, none⟩ = some (.int .i64 a1_2) := (blk_cell BK137.out 2).trans rfl
     have hcz41_3 : wc.cell? ⟨gb137, 3, none⟩ = some (.int .i64 a1_3) := (blk_cell BK137.out 3).trans rfl
     have hcz41_4 : wc.cell? ⟨gb137, 4, none⟩ = some (.int .i64 a1_4) := (blk_cell BK137.out 4).trans rfl
     have hcz41_5 : wc.cell? ⟨gb137, 5, none⟩ = some (.int .i64 a1_5) := (blk_cell BK137.out 5).trans rfl
     have hcz41_6 : wc.cell? ⟨gb137, 6, none⟩ = some (.int .i64 a1_6) := (blk_cell BK137.out 6).trans rfl
     have hcz41_7 : wc.cell? ⟨gb137, 7, none⟩ = some (.string a1_7) := (blk_cell BK137.out 7).trans rfl
     have hfz41_0 := blk_frozen BK137.out 0
     have hfz41_1 := blk_frozen BK137.out 1
     have hfz41_2 := blk_frozen BK137.out 2
     have hfz41_3 := blk_frozen BK137.out 3
     have hfz41_4 := blk_frozen BK137.out 4
     have hfz41_5 := blk_frozen BK137.out 5
     have hfz41_6 := blk_frozen BK137.out 6
     have hfz41_7 := blk_frozen BK137.out 7
     try go_wp2_with (first | ((with_reducible refine gate_dst (N := 8) rfl ?_); refine box_event ?hg (N := 8) ?hd (cs := #[.int .i64 0, .int .i64 0, .int .i64 0, .int .i64 0, .int .i64 0, .int .i64 0, .int .i64 0, .string (⟨#[]⟩ : ByteArray)]) (t := 27) ?hr ?_; (case hd => rfl); (case hg => rfl); (case hr => first | (go_simp; done) | (go_simp; rfl)); intro gb142 hg w42 hbox hb; have hIS_ := isSome_set; have n0_ := Aside0.mk (blkb BK136.out hb); have n1_ := Aside0.mk (blkb BK137.out hb); have n2_ := Aside0.mk (blkb BK138.out hb); have n3_ := Aside0.mk (blkb BK139.out hb); have n4_ := Aside0.mk (below_step (hbw HB.out) hb); have n5_ := Aside0.mk (hbox); have n6_ := Aside0.mk ((by rw [hg]; exact (below_size (hbw HB.out)) : w.heap.size ≤ gb142)); have n7_ := Aside0.mk ((by rw [hg]; exact (below_size (hbw HB.out)) : w.heap.size ≤ gb142)); have n8_ := Aside0.mk ((by rw [hg]; exact Nat.ne_of_lt (blkl BK136.out) : gb136 ≠ gb142)); have n9_ := Aside0.mk ((by rw [hg]; exact Nat.ne_of_gt (blkl BK136.out) : gb142 ≠ gb136)); have n10_ := Aside0.mk ((by rw [hg]; exact Nat.ne_of_lt (blkl BK137.out) : gb137 ≠ gb142)); have n11_ := Aside0.mk ((by rw [hg]; exact Nat.ne_of_gt (blkl BK137.out) : gb142 ≠ gb137)); have n12_ := Aside0.mk ((by rw [hg]; exact Nat.ne_of_lt (blkl BK138.out) : gb138 ≠ gb142)); have n13_ := Aside0.mk ((by rw [hg]; exact Nat.ne_of_gt (blkl BK138.out) : gb142 ≠ gb138)); have n14_ := Aside0.mk ((by rw [hg]; exact Nat.ne_of_lt (blkl BK139.out) : gb139 ≠ gb142)); have n15_ := Aside0.mk ((by rw [hg]; exact Nat.ne_of_gt (blkl BK139.out) : gb142 ≠ gb139)); clear BK136; clear BK137; clear BK138; clear BK139; clear HB; have BK136 := n0_; have BK137 := n1_; have BK138 := n2_; have BK139 := n3_; have HB := n4_; have BK142 := n5_; have GW142 := n6_; have GE142 := n7_; have NB136_142 := n8_; have NB142_136 := n9_; have NB137_142 := n10_; have NB142_137 := n11_; have NB138_142 := n12_; have NB142_138 := n13_; have NB139_142 := n14_; have NB142_139 := n15_; clear n0_ n1_ n2_ n3_ n4_ n5_ n6_ n7_ n8_ n9_ n10_ n11_ n12_ n13_ n14_ n15_; clear hb hbox hg; have hnb43 := NB142_136.out; have hnc43 := NB136_142.out; have hnb44 := NB142_137.out; have hnc44 := NB137_142.out; have hnb45 := NB142_138.out; have hnc45 := NB138_142.out; have hnb46 := NB142_139.out; have hnc46 := NB139_142.out; have hcz47_0 : w42.cell? ⟨gb142, 0, none⟩ = some (.int .i64 0) := (blk_cell BK142.out 0).trans rfl; have hcz47_1 : w42.cell? ⟨gb142, 1, none⟩ = some (.int .i64 0) := (blk_cell BK142.out 1).trans rfl; have hcz47_2 : w42.cell? ⟨gb142, 2, none⟩ = some (.int .i64 0) := (blk_cell BK142.out 2).trans rfl; have hcz47_3 : w42.cell? ⟨gb142, 3, none⟩ = some (.int .i64 0) := (blk_cell BK142.out 3).trans rfl; have hcz47_4 : w42.cell? ⟨gb142, 4, none⟩ = some (.int .i64 0) := (blk_cell BK142.out 4).trans rfl; have hcz47_5 : w42.cell? ⟨gb142, 5, none⟩ = some (.int .i64 0) := (blk_cell BK142.out 5).trans rfl; have hcz47_6 : w42.cell? ⟨gb142, 6, none⟩ = some (.int .i64 0) := (blk_cell BK142.out 6).trans rfl; have hcz47_7 : w42.cell? ⟨gb142, 7, none⟩ = some (.string (⟨#[]⟩ : ByteArray)) := (blk_cell BK142.out 7).trans rfl; have hfz47_0 := blk_frozen BK142.out 0; have hfz47_1 := blk_frozen BK142.out 1; have hfz47_2 := blk_frozen BK142.out 2; have hfz47_3 := blk_frozen BK142.out 3; have hfz47_4 := blk_frozen BK142.out 4; have hfz47_5 := blk_frozen BK142.out 5; have hfz47_6 := blk_frozen BK142.out 6; have hfz47_7 := blk_frozen BK142.out 7))
     have n0_ : Aside0 (((((((((w42.setCell ⟨gb142, 0, none⟩ (.int .i64 a1_0)).setCell ⟨gb142, 1, none⟩ (.int .i64 a1_1)).setCell ⟨gb142, 2, none⟩ (.int .i64 a1_2)).setCell ⟨gb142, 3, none⟩ (.int .i64 a1_3)).setCell ⟨gb142, 4, none⟩ (.int .i64 a1_4)).setCell ⟨gb142, 5, none⟩ (.int .i64 a1_5)).setCell ⟨gb142, 6, none⟩ (.int .i64 a1_6)).setCell ⟨gb142, 7, none⟩ (.string a1_7)).heap[gb136]? = some (.cells #[.string a0_0, .int .i64 a0_1, .bool a0_2] 23 (0, 0))) := ⟨by (with_reducible repeat (first | refine blk_drewN ?_ _ | refine blk_drew ?_ | refine blk_alloc ?_ _)); refine blk_far ?_ NB136_142.out _; (with_reducible repeat (first | refine blk_drewN ?_ _ | refine blk_drew ?_ | refine blk_alloc ?_ _)); refine blk_far ?_ NB136_142.out _; (with_reducible repeat (first | refine blk_drewN ?_ _ | refine blk_drew ?_ | refine blk_alloc ?_ _)); refine blk_far ?_ NB136_142.out _; (with_reducible repeat (first | refine blk_drewN ?_ _ | refine blk_drew ?_ | refine blk_alloc ?_ _)); refine blk_far ?_ NB136_142.out _; (with_reducible repeat (first | refine blk_drewN ?_ _ | refine blk_drew ?_ | refine blk_alloc ?_ _)); refine blk_far ?_ NB136_142.out _; (with_reducible repeat (first | refine blk_drewN ?_ _ | refine blk_drew ?_ | refine blk_alloc ?_ _)); refine blk_far ?_ NB136_142.out _; (with_reducible repeat (first | refine blk_drewN ?_ _ | refine blk_drew ?_ | refine blk_alloc ?_ _)); refine blk_far ?_ NB136_142.out _; (with_reducible repeat (first | refine blk_drewN ?_ _ | refine blk_drew ?_ | refine blk_alloc ?_ _)); refine blk_far ?_ NB136_142.out _; (with_reducible repeat (first | refine blk_drewN ?_ _ | refine blk_drew ?_ | refine blk_alloc ?_ _)); exact BK136.out⟩
     have n1_ : Aside0 (((((((((w42.setCell ⟨gb142, 0, none⟩ (.int .i64 a1_0)).setCell ⟨gb142, 1, none⟩ (.int .i64 a1_1)).setCell ⟨gb142, 2, none⟩ (.int .i64 a1_2)).setCell ⟨gb142, 3, none⟩ (.int .i64 a1_3)).setCell ⟨gb142, 4, none⟩ (.int .i64 a1_4)).setCell ⟨gb142, 5, none⟩ (.int .i64 a1_5)).setCell ⟨gb142, 6, none⟩ (.int .i64 a1_6)).setCell ⟨gb142, 7, none⟩ (.string a1_7)).heap[gb137]? = some (.cells #[.int .i64 a1_0, .int .i64 a1_1, .int .i64 a1_2, .int .i64 a1_3, .int .i64 a1_4, .int .i64 a1_5, .int .i64 a1_6, .string a1_7] 27 (0, 0))) := ⟨by (with_reducible repeat (first | refine blk_drewN ?_ _ | refine blk_drew ?_ | refine blk_alloc ?_ _)); refine blk_far ?_ NB137_142.out _; (with_reducible repeat (first | refine blk_drewN ?_ _ | refine blk_drew ?_ | refine blk_alloc ?_ _)); refine blk_far ?_ NB137_142.out _; (with_reducible repeat (first | refine blk_drewN ?_ _ | refine blk_drew ?_ | refine blk_alloc ?_ _)); refine blk_far ?_ NB137_142.out _; (with_reducible repeat (first | refine blk_drewN ?_ _ | refine blk_drew ?_ | refine blk_alloc ?_ _)); refine blk_far ?_ NB137_142.out _; (with_reducible repeat (first | refine blk_drewN ?_ _ | refine blk_drew ?_ | refine blk_alloc ?_ _)); refine blk_far ?_ NB137_142.out _; (with_reducible repeat (first | refine blk_drewN ?_ _ | refine blk_drew ?_ | refine blk_alloc ?_ _)); refine blk_far ?_ NB137_142.out _; (with_reducible repeat (first | refine blk_drewN ?_ _ | refine blk_drew ?_ | refine blk_alloc ?_ _)); refine blk_far ?_ NB137_142.out _; (with_reducible repeat (first | refine blk_drewN ?_ _ | refine blk_drew ?_ | refine blk_alloc ?_ _)); refine blk_far ?_ NB137_142.out _; (with_reducible repeat (first | refine blk_drewN ?_ _ | refine blk_drew ?_ | refine blk_alloc ?_ _)); exact BK137.out⟩
     have n2_ : Aside0 (((((((((w42.setCell ⟨gb142, 0, none⟩ (.int .i64 a1_0)).setCell ⟨gb142, 1, none⟩ (.int .i64 a1_1)).setCell ⟨gb142, 2, none⟩ (.int .i64 a1_2)).setCell ⟨gb142, 3, none⟩ (.int .i64 a1_3)).setCell ⟨gb142, 4, none⟩ (.int .i64 a1_4)).setCell ⟨gb142, 5, none⟩ (.int .i64 a1_5)).setCell ⟨gb142, 6, none⟩ (.int .i64 a1_6)).setCell ⟨gb142, 7, none⟩ (.string a1_7)).heap[gb138]? = some (.cells #[.int .i64 a2_0, .int .i64 a2_1, .int .i64 a2_2, .int .i64 a2_3, .int .i64 a2_4, .string a2_5, .int .i64 a2_6] 32 (0, 0))) := ⟨by (with_reducible repeat (first | refine blk_drewN ?_ _ | refine blk_drew ?_ | refine blk_alloc ?_ _)); refine blk_far ?_ NB138_142.out _; (with_reducible repeat (first | refine blk_drewN ?_ _ | refine blk_drew ?_ | refine blk_alloc ?_ _)); refine blk_far ?_ NB138_142.out _; (with_reducible repeat (first | refine blk_drewN ?_ _ | refine blk_drew ?_ | refine blk_alloc ?_ _)); refine blk_far ?_ NB138_142.out _; (with_reducible repeat (first | refine blk_drewN ?_ _ | refine blk_drew ?_ | refine blk_alloc ?_ _)); refine blk_far ?_ NB138_142.out _; (with_reducible repeat (first | refine blk_drewN ?_ _ | refine blk_drew ?_ | refine blk_alloc ?_ _)); refine blk_far ?_ NB138_142.out _; (with_reducible repeat (first | refine blk_drewN ?_ _ | refine blk_drew ?_ | refine blk_alloc ?_ _)); refine blk_far ?_ NB138_142.out _; (with_reducible repeat (first | refine blk_drewN ?_ _ | refine blk_drew ?_ | refine blk_alloc ?_ _)); refine blk_far ?_ NB138_142.out _; (with_reducible repeat (first | refine blk_drewN ?_ _ | refine blk_drew ?_ | refine blk_alloc ?_ _)); refine blk_far ?_ NB138_142.out _; (with_reducible repeat (first | refine blk_drewN ?_ _ | refine blk_drew ?_ | refine blk_alloc ?_ _)); exact BK138.out⟩
     have n3_ : Aside0 (((((((((w42.setCell ⟨gb142, 0, none⟩ (.int .i64 a1_0)).setCell ⟨gb142, 1, none⟩ (.int .i64 a1_1)).setCell ⟨gb142, 2, none⟩ (.int .i64 a1_2)).setCell ⟨gb142, 3, none⟩ (.int .i64 a1_3)).setCell ⟨gb142, 4, none⟩ (.int .i64 a1_4)).setCell ⟨gb142, 5, none⟩ (.int .i64 a1_5)).setCell ⟨gb142, 6, none⟩ (.int .i64 a1_6)).setCell ⟨gb142, 7, none⟩ (.string a1_7)).heap[gb139]? = some (.cells #[.int .i64 x140000_27, .int .i64 x140001_27, .int .i64 x140002_27, .int .i64 x140003_27, .int .i64 x140004_27, .int .i64 x140005_27, .int .i64 x140006_27, .string x140007_27] 27 (0, 0))) := ⟨by (with_reducible repeat (first | refine blk_drewN ?_ _ | refine blk_drew ?_ | refine blk_alloc ?_ _)); refine blk_far ?_ NB139_142.out _; (with_reducible repeat (first | refine blk_drewN ?_ _ | refine blk_drew ?_ | refine blk_alloc ?_ _)); refine blk_far ?_ NB139_142.out _; (with_reducible repeat (first | refine blk_drewN ?_ _ | refine blk_drew ?_ | refine blk_alloc ?_ _)); refine blk_far ?_ NB139_142.out _; (with_reducible repeat (first | refine blk_drewN ?_ _ | refine blk_drew ?_ | refine blk_alloc ?_ _)); refine blk_far ?_ NB139_142.out _; (with_reducible repeat (first | refine blk_drewN ?_ _ | refine blk_drew ?_ | refine blk_alloc ?_ _)); refine blk_far ?_ NB139_142.out _; (with_reducible repeat (first | refine blk_drewN ?_ _ | refine blk_drew ?_ | refine blk_alloc ?_ _)); refine blk_far ?_ NB139_142.out _; (with_reducible repeat (first | refine blk_drewN ?_ _ | refine blk_drew ?_ | refine blk_alloc ?_ _)); refine blk_far ?_ NB139_142.out _; (with_reducible repeat (first | refine blk_drewN ?_ _ | refine blk_drew ?_ | refine blk_alloc ?_ _)); refine blk_far ?_ NB139_142.out _; (with_reducible repeat (first | refine blk_drewN ?_ _ | refine blk_drew ?_ | refine blk_alloc ?_ _)); exact BK139.out⟩
     have n4_ : Aside0 (((((((((w42.setCell ⟨gb142, 0, none⟩ (.int .i64 a1_0)).setCell ⟨gb142, 1, none⟩ (.int .i64 a1_1)).setCell ⟨gb142, 2, none⟩ (.int .i64 a1_2)).setCell ⟨gb142, 3, none⟩ (.int .i64 a1_3)).setCell ⟨gb142, 4, none⟩ (.int .i64 a1_4)).setCell ⟨gb142, 5, none⟩ (.int .i64 a1_5)).setCell ⟨gb142, 6, none⟩ (.int .i64 a1_6)).setCell ⟨gb142, 7, none⟩ (.string a1_7)).heap[gb142]? = some (.cells #[.int .i64 a1_0, .int .i64 a1_1, .int .i64 a1_2, .int .i64 a1_3, .int .i64 a1_4, .int .i64 a1_5, .int .i64 a1_6, .string a1_7] 27 (0, 0))) := ⟨by (with_reducible repeat (first | refine blk_drewN ?_ _ | refine blk_drew ?_ | refine blk_alloc ?_ _)); refine blk_put (cs := #[.int .i64 a1_0, .int .i64 a1_1, .int .i64 a1_2, .int .i64 a1_3, .int .i64 a1_4, .int .i64 a1_5, .int .i64 a1_6, .string (⟨#[]⟩ : ByteArray)]) ?_ 7 _ rfl; (with_reducible repeat (first | refine blk_drewN ?_ _ | refine blk_drew ?_ | refine blk_alloc ?_ _)); refine blk_put (cs := #[.int .i64 a1_0, .int .i64 a1_1, .int .i64 a1_2, .int .i64 a1_3, .int .i64 a1_4, .int .i64 a1_5, .int .i64 0, .string (⟨#[]⟩ : ByteArray)]) ?_ 6 _ rfl; (with_reducible repeat (first | refine blk_drewN ?_ _ | refine blk_drew ?_ | refine blk_alloc ?_ _)); refine blk_put (cs := #[.int .i64 a1_0, .int .i64 a1_1, .int .i64 a1_2, .int .i64 a1_3, .int .i64 a1_4, .int .i64 0, .int .i64 0, .string (⟨#[]⟩ : ByteArray)]) ?_ 5 _ rfl; (with_reducible repeat (first | refine blk_drewN ?_ _ | refine blk_drew ?_ | refine blk_alloc ?_ _)); refine blk_put (cs := #[.int .i64 a1_0, .int .i64 a1_1, .int .i64 a1_2, .int .i64 a1_3, .int .i64 0, .int .i64 0, .int .i64 0, .string (⟨#[]⟩ : ByteArray)]) ?_ 4 _ rfl; (with_reducible repeat (first | refine blk_drewN ?_ _ | refine blk_drew ?_ | refine blk_alloc ?_ _)); refine blk_put (cs := #[.int .i64 a1_0, .int .i64 a1_1, .int .i64 a1_2, .int .i64 0, .int .i64 0, .int .i64 0, .int .i64 0, .string (⟨#[]⟩ : ByteArray)]) ?_ 3 _ rfl; (with_reducible repeat (first | refine blk_drewN ?_ _ | refine blk_drew ?_ | refine blk_alloc ?_ _)); refine blk_put (cs := #[.int .i64 a1_0, .int .i64 a1_1, .int .i64 0, .int .i64 0, .int .i64 0, .int .i64 0, .int .i64 0, .string (⟨#[]⟩ : ByteArray)]) ?_ 2 _ rfl; (with_reducible repeat (first | refine blk_drewN ?_ _ | refine blk_drew ?_ | refine blk_alloc ?_ _)); refine blk_put (cs := #[.int .i64 a1_0, .int .i64 0, .int .i64 0, .int .i64 0, .int .i64 0, .int .i64 0, .int .i64 0, .string (⟨#[]⟩ : ByteArray)]) ?_ 1 _ rfl; (with_reducible repeat (first | refine blk_drewN ?_ _ | refine blk_drew ?_ | refine blk_alloc ?_ _)); refine blk_put (cs := #[.int .i64 0, .int .i64 0, .int .i64 0, .int .i64 0, .int .i64 0, .int .i64 0, .int .i64 0, .string (⟨#[]⟩ : ByteArray)]) ?_ 0 _ rfl; (with_reducible repeat (first | refine blk_drewN ?_ _ | refine blk_drew ?_ | refine blk_alloc ?_ _)); exact BK142.out⟩
     have n5_ : Aside0 (Below w.heap.size w ((((((((w42.setCell ⟨gb142, 0, none⟩ (.int .i64 a1_0)).setCell ⟨gb142, 1, none⟩ (.int .i64 a1_1)).setCell ⟨gb142, 2, none⟩ (.int .i64 a1_2)).setCell ⟨gb142, 3, none⟩ (.int .i64 a1_3)).setCell ⟨gb142, 4, none⟩ (.int .i64 a1_4)).setCell ⟨gb142, 5, none⟩ (.int .i64 a1_5)).setCell ⟨gb142, 6, none⟩ (.int .i64 a1_6)).setCell ⟨gb142, 7, none⟩ (.string a1_7))) := ⟨by repeat (first | (with_reducible first | exact HB.out | apply below_alloc | apply pw_below_drewN | apply below_drew1 | refine below_set ?_ GE136.out | refine below_set ?_ GE137.out | refine below_set ?_ GE138.out | refine below_set ?_ GE139.out | refine below_set ?_ GE142.out) | exact HB.out)⟩
     (try clear BK136)
     (try clear BK137)
     (try clear BK138)
     (try clear BK139)
     (try clear BK142)
     (try clear HB)
     generalize ((((((((w42.setCell ⟨gb142, 0, none⟩ (.int .i64 a1_0)).setCell ⟨gb142, 1, none⟩ (.int .i64 a1_1)).setCell ⟨gb142, 2, none⟩ (.int .i64 a1_2)).setCell ⟨gb142, 3, none⟩ (.int .i64 a1_3)).setCell ⟨gb142, 4, none⟩ (.int .i64 a1_4)).setCell ⟨gb142, 5, none⟩ (.int .i64 a1_5)).setCell ⟨gb142, 6, none⟩ (.int .i64 a1_6)).setCell ⟨gb142, 7, none⟩ (.string a1_7)) = w48 at n0_ n1_ n2_ n3_ n4_ n5_ ⊢
     have BK136 := n0_
     have BK137 := n1_
     have BK138 := n2_
     have BK139 := n3_
     have BK142 := n4_
     have HB := n5_
     clear n0_ n1_ n2_ n3_ n4_ n5_
     have n0_ := Aside0.mk (blk_drew BK136.out)
     have n1_ := Aside0.mk (blk_drew BK137.out)
     have n2_ := Aside0.mk (blk_drew BK138.out)
     have n3_ := Aside0.mk (blk_drew BK139.out)
     have n4_ := Aside0.mk (blk_drew BK142.out)
     have n5_ := Aside0.mk (below_drew1 HB.out)
     clear BK136
     clear BK137
     clear BK138
     clear BK139
     clear BK142
     clear HB
     have BK136 := n0_
     have BK137 := n1_
     have BK138 := n2_
     have BK139 := n3_
     have BK142 := n4_
     have HB := n5_
     clear n0_ n1_ n2_ n3_ n4_ n5_
     refine start_ (n := 8) (S := fun w' => w'.cell? ⟨gb138, 0, none⟩ = some (.int .i64 a2_0) ∧ w'.cell? ⟨gb138, 1, none⟩ = some (.int .i64 a2_1) ∧ w'.cell? ⟨gb138, 2, none⟩ = some (.int .i64 a2_2) ∧ w'.cell? ⟨gb138, 3, none⟩ = some (.int .i64 a2_3) ∧ w'.cell? ⟨gb138, 4, none⟩ = some (.int .i64 a2_4) ∧ w'.cell? ⟨gb138, 5, none⟩ = some (.string a2_5) ∧ w'.cell? ⟨gb138, 6, none⟩ = some (.int .i64 a2_6)) (ds := []) #[false, false, false, false, false, false, false, false] (by kernel_rfl) rfl rfl ⟨(blk_cell BK138.out 0).trans rfl, (blk_cell BK138.out 1).trans rfl, (blk_cell BK138.out 2).trans rfl, (blk_cell BK138.out 3).trans rfl, (blk_cell BK138.out 4).trans rfl, (blk_cell BK138.out 5).trans rfl, (blk_cell BK138.out 6).trans rfl⟩ (fun hHeld => ?_); refine with_tabW sync_Step.tab4 sync_Step.bits4 (fun HT_ HW_ => ?_)
     generalize w48.drew = w49 at BK136 BK137 BK138 BK139 BK142 HB hHeld ⊢
     refine pstep 0 (some 23) #[true, false, false, false, false, false, false, false] HT_.out ?_
     refine pstep 2 (some 25) #[true, false, true, false, false, false, false, false] HT_.out ?_
     refine take_ (i := 1) (N := some 24) (v := ?_) (a' := ?_) #[true, true, true, false, false, false, false, false] rfl rfl (take_ofW HT_.out HW_.out (by kernel_rfl)) (fun _ _ _ h => h) (Or.inl ⟨by rfl, ?_⟩) hHeld ?_ ?_
     rotate_left
     ·rintro w' ⟨s0, s1, s2, s3, s4, s5, s6⟩
      go_simp
      with_reducible rfl
     rotate_left
     ·simp only [Act.put, nrm]
      rfl
     refine pstep 4 (some 27) #[true, true, true, false, true, false, false, false] HT_.out ?_
     refine take_ (i := 3) (N := some 26) (v := ?_) (a' := ?_) #[true, true, true, true, true, false, false, false] rfl rfl (take_ofW HT_.out HW_.out (by kernel_rfl)) (fun _ _ _ h => h) (Or.inl ⟨by rfl, ?_⟩) hHeld ?_ ?_
     rotate_left
     ·rintro w' ⟨s0, s1, s2, s3, s4, s5, s6⟩
      go_simp
      with_reducible rfl
     rotate_left
     ·simp only [Act.put, nrm]
      rfl
     refine one_ (i := 5) (N := none) #[true, true, true, true, true, true, false, false] rfl rfl (one_of HT_.out (by kernel_rfl)) (by decide) (fun K hK => ?_)
     have hs50 : w49.cell? ⟨gb137, 1, none⟩ = some (.int .i64 a1_1) := (blk_cell BK137.out 1).trans rfl
     have hfs50 := blk_frozen BK137.out 1
     have hns50_0 := NB136_137.out
     have hns50_2 := NB138_137.out
     have hns50_3 := NB139_137.out
     have hns50_4 := NB142_137.out
     have hms50_0 := NB137_136.out
     have hms50_2 := NB137_138.out
     have hms50_3 := NB137_139.out
     have hms50_4 := NB137_142.out
     refine skip_ (w1 := ?_) (by rfl) rfl ?_ ?_
     rotate_left
     ·go_simp
      rfl
     refine hK.out _ _ ⟨((cell_far (p := ⟨gb137, _, none⟩) NB138_137.out _).trans (hHeld.1)), ((cell_far (p := ⟨gb137, _, none⟩) NB138_137.out _).trans (hHeld.2.1)), ((cell_far (p := ⟨gb137, _, none⟩) NB138_137.out _).trans (hHeld.2.2.1)), ((cell_far (p := ⟨gb137, _, none⟩) NB138_137.out _).trans (hHeld.2.2.2.1)), ((cell_far (p := ⟨gb137, _, none⟩) NB138_137.out _).trans (hHeld.2.2.2.2.1)), ((cell_far (p := ⟨gb137, _, none⟩) NB138_137.out _).trans (hHeld.2.2.2.2.2.1)), ((cell_far (p := ⟨gb137, _, none⟩) NB138_137.out _).trans (hHeld.2.2.2.2.2.2))⟩ (fun hHeld => ?_)
     clear hK K
     refine pstep 6 (some 28) #[true, true, true, true, true, true, true, false] HT_.out ?_
     refine one_ (i := 7) (N := none) #[true, true, true, true, true, true, true, true] rfl rfl (one_of HT_.out (by kernel_rfl)) (by decide) (fun K hK => ?_)
     have hs51 : w49.cell? ⟨gb137, 6, none⟩ = some (.int .i64 a1_6) := (blk_cell BK137.out 6).trans rfl
     have hfs51 := blk_frozen BK137.out 6
     have hns51_0 := NB136_137.out
     have hns51_2 := NB138_137.out
     have hns51_3 := NB139_137.out
     have hns51_4 := NB142_137.out
     have hms51_0 := NB137_136.out
     have hms51_2 := NB137_138.out
     have hms51_3 := NB137_139.out
     have hms51_4 := NB137_142.out
     refine skip_ (w1 := ?_) (by rfl) rfl ?_ ?_
     rotate_left
     ·go_simp
      rfl
     refine hK.out _ _ ⟨((cell_far (p := ⟨gb137, _, none⟩) NB138_137.out _).trans (hHeld.1)), ((cell_far (p := ⟨gb137, _, none⟩) NB138_137.out _).trans (hHeld.2.1)), ((cell_far (p := ⟨gb137, _, none⟩) NB138_137.out _).trans (hHeld.2.2.1)), ((cell_far (p := ⟨gb137, _, none⟩) NB138_137.out _).trans (hHeld.2.2.2.1)), ((cell_far (p := ⟨gb137, _, none⟩) NB138_137.out _).trans (hHeld.2.2.2.2.1)), ((cell_far (p := ⟨gb137, _, none⟩) NB138_137.out _).trans (hHeld.2.2.2.2.2.1)), ((cell_far (p := ⟨gb137, _, none⟩) NB138_137.out _).trans (hHeld.2.2.2.2.2.2))⟩ (fun hHeld => ?_)
     clear hK K
     refine done_ (done_of HT_.out (by kernel_rfl)) ?_
     have hnb52 := NB138_136.out
     have hnc52 := NB136_138.out
     have hnb53 := NB138_139.out
     have hnc53 := NB139_138.out
     have hcz54_0 : w49.cell? ⟨gb138, 0, none⟩ = some (.int .i64 a2_0) := (blk_cell BK138.out 0).trans rfl
     have hcz54_1 : w49.cell? ⟨gb138, 1, none⟩ = some (.int .i64 a2_1) := (blk_cell BK138.out 1).trans rfl
     have hcz54_2 : w49.cell? ⟨gb138, 2, none⟩ = some (.int .i64 a2_2) := (blk_cell BK138.out 2).trans rfl
     have hcz54_3 : w49.cell? ⟨gb138, 3, none⟩ = some (.int .i64 a2_3) := (blk_cell BK138.out 3).trans rfl
     have hcz54_4 : w49.cell? ⟨gb138, 4, none⟩ = some (.int .i64 a2_4) := (blk_cell BK138.out 4).trans rfl
     have hcz54_5 : w49.cell? ⟨gb138, 5, none⟩ = some (.string a2_5) := (blk_cell BK138.out 5).trans rfl
     have hcz54_6 : w49.cell? ⟨gb138, 6, none⟩ = some (.int .i64 a2_6) := (blk_cell BK138.out 6).trans rfl
     have hfz54_0 := blk_frozen BK138.out 0
     have hfz54_1 := blk_frozen BK138.out 1
     have hfz54_2 := blk_frozen BK138.out 2
     have hfz54_3 := blk_frozen BK138.out 3
     have hfz54_4 := blk_frozen BK138.out 4
     have hfz54_5 := blk_frozen BK138.out 5
     have hfz54_6 := blk_frozen BK138.out 6
     go_upto_if 31 with (fail)
     go_cut [] (fun wc => ∃ (kq : Nat) (x140000_36 : Int) (x140001_36 : Int) (x140002_36 : Int) (x140003_36 : Int) (x140004_36 : Int) (x140005_36 : Int) (x140006_36 : Int) (x140007_36 : ByteArray), Aside0 (sync_Step.j2 kq a0_0 a0_1 a0_2 a1_0 a2_1 a1_2 a1_3 a1_4 a1_5 a2_2 a1_7 a2_0 a2_1 a2_2 a2_3 a2_4 a2_5 a2_6 = some (r1, r2, r3, r4, r5, r6, r7, r8, r9)) ∧ Aside0 (kq ≤ kj27) ∧ Aside0 (wc.heap[gb136]? = some (.cells #[.string a0_0, .int .i64 a0_1, .bool a0_2] 23 (0, 0))) ∧ Aside0 (wc.heap[gb137]? = some (.cells #[.int .i64 a1_0, .int .i64 a2_1, .int .i64 a1_2, .int .i64 a1_3, .int .i64 a1_4, .int .i64 a1_5, .int .i64 a2_2, .string a1_7] 27 (0, 0))) ∧ Aside0 (wc.heap[gb138]? = some (.cells #[.int .i64 a2_0, .int .i64 a2_1, .int .i64 a2_2, .int .i64 a2_3, .int .i64 a2_4, .string a2_5, .int .i64 a2_6] 32 (0, 0))) ∧ Aside0 (wc.heap[gb139]? = some (.cells #[.int .i64 x140000_36, .int .i64 x140001_36, .int .i64 x140002_36, .int .i64 x140003_36, .int .i64 x140004_36, .int .i64 x140005_36, .int .i64 x140006_36, .string x140007_36] 27 (0, 0))) ∧ Aside0 (wc.heap[gb142]? = some (.cells #[.int .i64 a1_0, .int .i64 a1_1, .int .i64 a1_2, .int .i64 a1_3, .int .i64 a1_4, .int .i64 a1_5, .int .i64 a1_6, .string a1_7] 27 (0, 0))) ∧ Aside0 (Below w.heap.size w wc))
     case first =>
      have H := HC37.out
      clear HC37
      by_cases c55 : a2_6 = 0
      ·rw [if_pos c55] at H
       have c55b0 : (a2_6 == 0) = true := beq_iff_eq.mpr c55
       have c55b1 : (a2_6 != 0) = false := bne_eq_false_iff_eq.mpr c55
       clear c55
       (first | rw [c55b0] | (simp only [i64_w, i32_w]; rw [c55b0]) | skip)
       have H' := Aside0.mk H
       clear H
       go_wp2
       go_meet
       case rel => exact ⟨_, (x140000_27), (x140001_27), (x140002_27), (x140003_27), (x140004_27), (x140005_27), (x140006_27), (x140007_27), H', ⟨by have := HJ3.out; have := HJ27.out; first | omega | exact Nat.le_refl _⟩, ⟨by (with_reducible repeat (first | refine blk_drewN ?_ _ | refine blk_drew ?_ | refine blk_alloc ?_ _)); refine blk_far ?_ NB136_137.out _; (with_reducible repeat (first | refine blk_drewN ?_ _ | refine blk_drew ?_ | refine blk_alloc ?_ _)); refine blk_far ?_ NB136_137.out _; (with_reducible repeat (first | refine blk_drewN ?_ _ | refine blk_drew ?_ | refine blk_alloc ?_ _)); exact BK136.out⟩, ⟨by (with_reducible repeat (first | refine blk_drewN ?_ _ | refine blk_drew ?_ | refine blk_alloc ?_ _)); refine blk_put (cs := #[.int .i64 a1_0, .int .i64 a2_1, .int .i64 a1_2, .int .i64 a1_3, .int .i64 a1_4, .int .i64 a1_5, .int .i64 a1_6, .string a1_7]) ?_ 6 _ rfl; (with_reducible repeat (first | refine blk_drewN ?_ _ | refine blk_drew ?_ | refine blk_alloc ?_ _)); refine blk_put (cs := #[.int .i64 a1_0, .int .i64 a1_1, .int .i64 a1_2, .int .i64 a1_3, .int .i64 a1_4, .int .i64 a1_5, .int .i64 a1_6, .string a1_7]) ?_ 1 _ rfl; (with_reducible repeat (first | refine blk_drewN ?_ _ | refine blk_drew ?_ | refine blk_alloc ?_ _)); exact BK137.out⟩, ⟨by (with_reducible repeat (first | refine blk_drewN ?_ _ | refine blk_drew ?_ | refine blk_alloc ?_ _)); refine blk_far ?_ NB138_137.out _; (with_reducible repeat (first | refine blk_drewN ?_ _ | refine blk_drew ?_ | refine blk_alloc ?_ _)); refine blk_far ?_ NB138_137.out _; (with_reducible repeat (first | refine blk_drewN ?_ _ | refine blk_drew ?_ | refine blk_alloc ?_ _)); exact BK138.out⟩, ⟨by (with_reducible repeat (first | refine blk_drewN ?_ _ | refine blk_drew ?_ | refine blk_alloc ?_ _)); refine blk_far ?_ NB139_137.out _; (with_reducible repeat (first | refine blk_drewN ?_ _ | refine blk_drew ?_ | refine blk_alloc ?_ _)); refine blk_far ?_ NB139_137.out _; (with_reducible repeat (first | refine blk_drewN ?_ _ | refine blk_drew ?_ | refine blk_alloc ?_ _)); exact BK139.out⟩, ⟨by (with_reducible repeat (first | refine blk_drewN ?_ _ | refine blk_drew ?_ | refine blk_alloc ?_ _)); refine blk_far ?_ NB142_137.out _; (with_reducible repeat (first | refine blk_drewN ?_ _ | refine blk_drew ?_ | refine blk_alloc ?_ _)); refine blk_far ?_ NB142_137.out _; (with_reducible repeat (first | refine blk_drewN ?_ _ | refine blk_drew ?_ | refine blk_alloc ?_ _)); exact BK142.out⟩, ⟨by repeat (first | (with_reducible first | exact HB.out | apply below_alloc | apply pw_below_drewN | apply below_drew1 | refine below_set ?_ GE136.out | refine below_set ?_ GE137.out | refine below_set ?_ GE138.out | refine below_set ?_ GE139.out | refine below_set ?_ GE142.out) | exact HB.out)⟩⟩
      ·rw [if_neg c55] at H
       have c55b0 : (a2_6 == 0) = false := beq_eq_false_iff_ne.mpr c55
       have c55b1 : (a2_6 != 0) = true := bne_iff_ne.mpr c55
       (first | rw [c55b0] | (simp only [i64_w, i32_w]; rw [c55b0]) | skip)
       replace H := Option.bind_eq_some_iff.mp H
       obtain ⟨⟨t143, t144, t145, t146, t147, t148, t149, t150⟩, A560, H⟩ := H
       replace H : ((sync_aborted.f a1_0 a1_1 a1_2 a1_3 a1_4 a1_5 a1_6 a1_7 a2_1).bind fun t151 => (some (t143, t144, t145, t146, t147, t148, t149, t150, t151))) = some (r1, r2, r3, r4, r5, r6, r7, r8, r9) := H
       have A56 := Aside0.mk A560
       clear A560
       replace H := Option.bind_eq_some_iff.mp H
       obtain ⟨t151, A570, H⟩ := H
       replace H : (some (t143, t144, t145, t146, t147, t148, t149, t150, t151)) = some (r1, r2, r3, r4, r5, r6, r7, r8, r9) := H
       have A57 := Aside0.mk A570
       clear A570
       simp only [Option.some.injEq, Prod.mk.injEq] at H
       obtain ⟨rfl, rfl, rfl, rfl, rfl, rfl, rfl, rfl, rfl⟩ := H
       try go_wp2
       have n0_ : Aside0 (((w49.setCell ⟨gb137, 1, none⟩ (.int .i64 a2_1)).setCell ⟨gb137, 6, none⟩ (.int .i64 a2_2)).heap[gb136]? = some (.cells #[.string a0_0, .int .i64 a0_1, .bool a0_2] 23 (0, 0))) := ⟨by (with_reducible repeat (first | refine blk_drewN ?_ _ | refine blk_drew ?_ | refine blk_alloc ?_ _)); refine blk_far ?_ NB136_137.out _; (with_reducible repeat (first | refine blk_drewN ?_ _ | refine blk_drew ?_ | refine blk_alloc ?_ _)); refine blk_far ?_ NB136_137.out _; (with_reducible repeat (first | refine blk_drewN ?_ _ | refine blk_drew ?_ | refine blk_alloc ?_ _)); exact BK136.out⟩
       have n1_ : Aside0 (((w49.setCell ⟨gb137, 1, none⟩ (.int .i64 a2_1)).setCell ⟨gb137, 6, none⟩ (.int .i64 a2_2)).heap[gb137]? = some (.cells #[.int .i64 a1_0, .int .i64 a2_1, .int .i64 a1_2, .int .i64 a1_3, .int .i64 a1_4, .int .i64 a1_5, .int .i64 a2_2, .string a1_7] 27 (0, 0))) := ⟨by (with_reducible repeat (first | refine blk_drewN ?_ _ | refine blk_drew ?_ | refine blk_alloc ?_ _)); refine blk_put (cs := #[.int .i64 a1_0, .int .i64 a2_1, .int .i64 a1_2, .int .i64 a1_3, .int .i64 a1_4, .int .i64 a1_5, .int .i64 a1_6, .string a1_7]) ?_ 6 _ rfl; (with_reducible repeat (first | refine blk_drewN ?_ _ | refine blk_drew ?_ | refine blk_alloc ?_ _)); refine blk_put (cs := #[.int .i64 a1_0, .int .i64 a1_1, .int .i64 a1_2, .int .i64 a1_3, .int .i64 a1_4, .int .i64 a1_5, .int .i64 a1_6, .string a1_7]) ?_ 1 _ rfl; (with_reducible repeat (first | refine blk_drewN ?_ _ | refine blk_drew ?_ | refine blk_alloc ?_ _)); exact BK137.out⟩
       have n2_ : Aside0 (((w49.setCell ⟨gb137, 1, none⟩ (.int .i64 a2_1)).setCell ⟨gb137, 6, none⟩ (.int .i64 a2_2)).heap[gb138]? = some (.cells #[.int .i64 a2_0, .int .i64 a2_1, .int .i64 a2_2, .int .i64 a2_3, .int .i64 a2_4, .string a2_5, .int .i64 a2_6] 32 (0, 0))) := ⟨by (with_reducible repeat (first | refine blk_drewN ?_ _ | refine blk_drew ?_ | refine blk_alloc ?_ _)); refine blk_far ?_ NB138_137.out _; (with_reducible repeat (first | refine blk_drewN ?_ _ | refine blk_drew ?_ | refine blk_alloc ?_ _)); refine blk_far ?_ NB138_137.out _; (with_reducible repeat (first | refine blk_drewN ?_ _ | refine blk_drew ?_ | refine blk_alloc ?_ _)); exact BK138.out⟩
       have n3_ : Aside0 (((w49.setCell ⟨gb137, 1, none⟩ (.int .i64 a2_1)).setCell ⟨gb137, 6, none⟩ (.int .i64 a2_2)).heap[gb139]? = some (.cells #[.int .i64 x140000_27, .int .i64 x140001_27, .int .i64 x140002_27, .int .i64 x140003_27, .int .i64 x140004_27, .int .i64 x140005_27, .int .i64 x140006_27, .string x140007_27] 27 (0, 0))) := ⟨by (with_reducible repeat (first | refine blk_drewN ?_ _ | refine blk_drew ?_ | refine blk_alloc ?_ _)); refine blk_far ?_ NB139_137.out _; (with_reducible repeat (first | refine blk_drewN ?_ _ | refine blk_drew ?_ | refine blk_alloc ?_ _)); refine blk_far ?_ NB139_137.out _; (with_reducible repeat (first | refine blk_drewN ?_ _ | refine blk_drew ?_ | refine blk_alloc ?_ _)); exact BK139.out⟩
       have n4_ : Aside0 (((w49.setCell ⟨gb137, 1, none⟩ (.int .i64 a2_1)).setCell ⟨gb137, 6, none⟩ (.int .i64 a2_2)).heap[gb142]? = some (.cells #[.int .i64 a1_0, .int .i64 a1_1, .int .i64 a1_2, .int .i64 a1_3, .int .i64 a1_4, .int .i64 a1_5, .int .i64 a1_6, .string a1_7] 27 (0, 0))) := ⟨by (with_reducible repeat (first | refine blk_drewN ?_ _ | refine blk_drew ?_ | refine blk_alloc ?_ _)); refine blk_far ?_ NB142_137.out _; (with_reducible repeat (first | refine blk_drewN ?_ _ | refine blk_drew ?_ | refine blk_alloc ?_ _)); refine blk_far ?_ NB142_137.out _; (with_reducible repeat (first | refine blk_drewN ?_ _ | refine blk_drew ?_ | refine blk_alloc ?_ _)); exact BK142.out⟩
       have n5_ : Aside0 (Below w.heap.size w ((w49.setCell ⟨gb137, 1, none⟩ (.int .i64 a2_1)).setCell ⟨gb137, 6, none⟩ (.int .i64 a2_2))) := ⟨by repeat (first | (with_reducible first | exact HB.out | apply below_alloc | apply pw_below_drewN | apply below_drew1 | refine below_set ?_ GE136.out | refine below_set ?_ GE137.out | refine below_set ?_ GE138.out | refine below_set ?_ GE139.out | refine below_set ?_ GE142.out) | exact HB.out)⟩
       (try clear BK136)
       (try clear BK137)
       (try clear BK138)
       (try clear BK139)
       (try clear BK142)
       (try clear HB)
       generalize ((w49.setCell ⟨gb137, 1, none⟩ (.int .i64 a2_1)).setCell ⟨gb137, 6, none⟩ (.int .i64 a2_2)) = w58 at n0_ n1_ n2_ n3_ n4_ n5_ ⊢
       have BK136 := n0_
       have BK137 := n1_
       have BK138 := n2_
       have BK139 := n3_
       have BK142 := n4_
       have HB := n5_
       clear n0_ n1_ n2_ n3_ n4_ n5_
       have n0_ := Aside0.mk (blk_drew BK136.out)
       have n1_ := Aside0.mk (blk_drew BK137.out)
       have n2_ := Aside0.mk (blk_drew BK138.out)
       have n3_ := Aside0.mk (blk_drew BK139.out)
       have n4_ := Aside0.mk (blk_drew BK142.out)
       have n5_ := Aside0.mk (below_drew1 HB.out)
       clear BK136
       clear BK137
       clear BK138
       clear BK139
       clear BK142
       clear HB
       have BK136 := n0_
       have BK137 := n1_
       have BK138 := n2_
       have BK139 := n3_
       have BK142 := n4_
       have HB := n5_
       clear n0_ n1_ n2_ n3_ n4_ n5_
       refine start_ (n := 8) (S := fun w' => w'.cell? ⟨gb137, 0, none⟩ = some (.int .i64 a1_0) ∧ w'.cell? ⟨gb137, 1, none⟩ = some (.int .i64 a2_1) ∧ w'.cell? ⟨gb137, 2, none⟩ = some (.int .i64 a1_2) ∧ w'.cell? ⟨gb137, 3, none⟩ = some (.int .i64 a1_3) ∧ w'.cell? ⟨gb137, 4, none⟩ = some (.int .i64 a1_4) ∧ w'.cell? ⟨gb137, 5, none⟩ = some (.int .i64 a1_5) ∧ w'.cell? ⟨gb137, 6, none⟩ = some (.int .i64 a2_2) ∧ w'.cell? ⟨gb137, 7, none⟩ = some (.string a1_7) ∧ w'.cell? ⟨gb142, 0, none⟩ = some (.int .i64 a1_0) ∧ w'.cell? ⟨gb142, 1, none⟩ = some (.int .i64 a1_1) ∧ w'.cell? ⟨gb142, 2, none⟩ = some (.int .i64 a1_2) ∧ w'.cell? ⟨gb142, 3, none⟩ = some (.int .i64 a1_3) ∧ w'.cell? ⟨gb142, 4, none⟩ = some (.int .i64 a1_4) ∧ w'.cell? ⟨gb142, 5, none⟩ = some (.int .i64 a1_5) ∧ w'.cell? ⟨gb142, 6, none⟩ = some (.int .i64 a1_6) ∧ w'.cell? ⟨gb142, 7, none⟩ = some (.string a1_7) ∧ w'.cell? ⟨gb138, 0, none⟩ = some (.int .i64 a2_0) ∧ w'.cell? ⟨gb138, 1, none⟩ = some (.int .i64 a2_1) ∧ w'.cell? ⟨gb138, 2, none⟩ = some (.int .i64 a2_2) ∧ w'.cell? ⟨gb138, 3, none⟩ = some (.int .i64 a2_3) ∧ w'.cell? ⟨gb138, 4, none⟩ = some (.int .i64 a2_4) ∧ w'.cell? ⟨gb138, 5, none⟩ = some (.string a2_5) ∧ w'.cell? ⟨gb138, 6, none⟩ = some (.int .i64 a2_6)) (ds := []) #[false, false, false, false, false, false, false, false] (by kernel_rfl) rfl rfl ⟨(blk_cell BK137.out 0).trans rfl, (blk_cell BK137.out 1).trans rfl, (blk_cell BK137.out 2).trans rfl, (blk_cell BK137.out 3).trans rfl, (blk_cell BK137.out 4).trans rfl, (blk_cell BK137.out 5).trans rfl, (blk_cell BK137.out 6).trans rfl, (blk_cell BK137.out 7).trans rfl, (blk_cell BK142.out 0).trans rfl, (blk_cell BK142.out 1).trans rfl, (blk_cell BK142.out 2).trans rfl, (blk_cell BK142.out 3).trans rfl, (blk_cell BK142.out 4).trans rfl, (blk_cell BK142.out 5).trans rfl, (blk_cell BK142.out 6).trans rfl, (blk_cell BK142.out 7).trans rfl, (blk_cell BK138.out 0).trans rfl, (blk_cell BK138.out 1).trans rfl, (blk_cell BK138.out 2).trans rfl, (blk_cell BK138.out 3).trans rfl, (blk_cell BK138.out 4).trans rfl, (blk_cell BK138.out 5).trans rfl, (blk_cell BK138.out 6).trans rfl⟩ (fun hHeld => ?_); refine with_tabW sync_Step.tab6 sync_Step.bits6 (fun HT_ HW_ => ?_)
       generalize w58.drew = w59 at BK136 BK137 BK138 BK139 BK142 HB hHeld ⊢
       refine pstep 3 (some 35) #[false, false, false, true, false, false, false, false] HT_.out ?_
       refine take_ (i := 0) (N := some 32) (v := ?_) (a' := ?_) #[true, false, false, true, false, false, false, false] rfl rfl (take_ofW HT_.out HW_.out (by kernel_rfl)) (fun _ _ _ h => h) (Or.inl ⟨by rfl, ?_⟩) hHeld ?_ ?_
       rotate_left
       ·rintro w' ⟨s0, s1, s2, s3, s4, s5, s6, s7, s8, s9, s10, s11, s12, s13, s14, s15, s16, s17, s18, s19, s20, s21, s22⟩
        go_simp
        with_reducible rfl
       rotate_left
       ·simp only [Act.put, nrm]
        rfl
       refine take_ (i := 2) (N := some 34) (v := ?_) (a' := ?_) #[true, false, true, true, false, false, false, false] rfl rfl (take_ofW HT_.out HW_.out (by kernel_rfl)) (fun _ _ _ h => h) (Or.inl ⟨by rfl, ?_⟩) hHeld ?_ ?_
       rotate_left
       ·rintro w' ⟨s0, s1, s2, s3, s4, s5, s6, s7, s8, s9, s10, s11, s12, s13, s14, s15, s16, s17, s18, s19, s20, s21, s22⟩
        go_simp
        with_reducible rfl
       rotate_left
       ·simp only [Act.put, nrm]
        rfl
       refine take_ (i := 4) (N := some 36) (v := ?_) (a' := ?_) #[true, false, true, true, true, false, false, false] rfl rfl (take_ofW HT_.out HW_.out (by kernel_rfl)) (fun _ _ _ h => h) (Or.inl ⟨by rfl, ?_⟩) hHeld ?_ ?_
       rotate_left
       ·rintro w' ⟨s0, s1, s2, s3, s4, s5, s6, s7, s8, s9, s10, s11, s12, s13, s14, s15, s16, s17, s18, s19, s20, s21, s22⟩
        go_simp
        with_reducible rfl
       rotate_left
       ·simp only [Act.put, nrm]
        rfl
       refine one_ (i := 1) (N := some 33) #[true, true, true, true, true, false, false, false] rfl rfl (one_of HT_.out (by kernel_rfl)) (by decide) (fun K hK => ?_)
       refine goes_ Try.func27 (by kernel_rfl) rfl #[.agg #[.int .i64 a1_0, .int .i64 a2_1, .int .i64 a1_2, .int .i64 a1_3, .int .i64 a1_4, .int .i64 a1_5, .int .i64 a2_2, .string a1_7]] (by rfl) rfl rfl (by (try simp only [List.map_toArray, List.map_cons, List.map_nil]); first | done | rfl | (simp only [List.length_drop, List.length_take]; rfl)) ?_
       with_reducible refine (sync_search.calls a1_0 a2_1 a1_2 a1_3 a1_4 a1_5 a2_2 a1_7 t143 t144 t145 t146 t147 t148 t149 t150 _ A56.out).mono ?_
       rintro e w60 ⟨rfl, hb⟩
       refine ⟨_, rfl, ?_⟩
       have n0_ := Aside0.mk (blkb BK136.out hb)
       have n1_ := Aside0.mk (blkb BK137.out hb)
       have n2_ := Aside0.mk (blkb BK138.out hb)
       have n3_ := Aside0.mk (blkb BK139.out hb)
       have n4_ := Aside0.mk (blkb BK142.out hb)
       have n5_ := Aside0.mk (below_step (hbw HB.out) hb)
       clear BK136
       clear BK137
       clear BK138
       clear BK139
       clear BK142
       clear HB
       have BK136 := n0_
       have BK137 := n1_
       have BK138 := n2_
       have BK139 := n3_
       have BK142 := n4_
       have HB := n5_
       clear n0_ n1_ n2_ n3_ n4_ n5_
       (try clear hb)
       (try clear hb2)
       (try clear hk)
       (try clear hi)
       refine hK.out _ _ ⟨(blk_cell BK137.out 0).trans rfl, (blk_cell BK137.out 1).trans rfl, (blk_cell BK137.out 2).trans rfl, (blk_cell BK137.out 3).trans rfl, (blk_cell BK137.out 4).trans rfl, (blk_cell BK137.out 5).trans rfl, (blk_cell BK137.out 6).trans rfl, (blk_cell BK137.out 7).trans rfl, (blk_cell BK142.out 0).trans rfl, (blk_cell BK142.out 1).trans rfl, (blk_cell BK142.out 2).trans rfl, (blk_cell BK142.out 3).trans rfl, (blk_cell BK142.out 4).trans rfl, (blk_cell BK142.out 5).trans rfl, (blk_cell BK142.out 6).trans rfl, (blk_cell BK142.out 7).trans rfl, (blk_cell BK138.out 0).trans rfl, (blk_cell BK138.out 1).trans rfl, (blk_cell BK138.out 2).trans rfl, (blk_cell BK138.out 3).trans rfl, (blk_cell BK138.out 4).trans rfl, (blk_cell BK138.out 5).trans rfl, (blk_cell BK138.out 6).trans rfl⟩ (fun hHeld => ?_)
       clear hK K
       refine norm_ (a' := ?_) ?_ ?_
       rotate_left
       ·show Act.put _ (some 33) _ = _
        simp only [Act.put, nrm]
        rfl
       refine one_ (i := 5) (N := some 37) #[true, true, true, true, true, true, false, false] rfl rfl (one_of HT_.out (by kernel_rfl)) (by decide) (fun K hK => ?_)
       refine goes_ Try.func28 (by kernel_rfl) rfl #[.agg #[.int .i64 a1_0, .int .i64 a1_1, .int .i64 a1_2, .int .i64 a1_3, .int .i64 a1_4, .int .i64 a1_5, .int .i64 a1_6, .string a1_7], .int .i64 a2_1] (by rfl) rfl rfl (by (try simp only [List.map_toArray, List.map_cons, List.map_nil]); first | done | rfl | (simp only [List.length_drop, List.length_take]; rfl)) ?_
       with_reducible refine (sync_aborted.calls a1_0 a1_1 a1_2 a1_3 a1_4 a1_5 a1_6 a1_7 a2_1 t151 _ A57.out).mono ?_
       rintro e w61 ⟨v152, rfl, ho0, hb⟩
       refine ⟨_, rfl, ?_⟩
       have n0_ := Aside0.mk (Kd.R_lower (Kd.R_newB ho0 (g := gb138) (o := .cells #[.int .i64 a2_0, .int .i64 a2_1, .int .i64 a2_2, .int .i64 a2_3, .int .i64 a2_4, .string a2_5, .int .i64 a2_6] 32 (0, 0)) (bkw BK138.out)) (below_size (hbw HB.out)))
       have n1_ := Aside0.mk (blkb BK136.out hb)
       have n2_ := Aside0.mk (blkb BK137.out hb)
       have n3_ := Aside0.mk (blkb BK138.out hb)
       have n4_ := Aside0.mk (blkb BK139.out hb)
       have n5_ := Aside0.mk (blkb BK142.out hb)
       have n6_ := Aside0.mk (below_step (hbw HB.out) hb)
       clear BK136
       clear BK137
       clear BK138
       clear BK139
       clear BK142
       clear HB
       have HO153 := n0_
       have BK136 := n1_
       have BK137 := n2_
       have BK138 := n3_
       have BK139 := n4_
       have BK142 := n5_
       have HB := n6_
       clear n0_ n1_ n2_ n3_ n4_ n5_ n6_
       (try clear hb)
       (try clear hb2)
       (try clear hk)
       (try clear hi)
       (try clear ho0)
       refine hK.out _ _ ⟨(blk_cell BK137.out 0).trans rfl, (blk_cell BK137.out 1).trans rfl, (blk_cell BK137.out 2).trans rfl, (blk_cell BK137.out 3).trans rfl, (blk_cell BK137.out 4).trans rfl, (blk_cell BK137.out 5).trans rfl, (blk_cell BK137.out 6).trans rfl, (blk_cell BK137.out 7).trans rfl, (blk_cell BK142.out 0).trans rfl, (blk_cell BK142.out 1).trans rfl, (blk_cell BK142.out 2).trans rfl, (blk_cell BK142.out 3).trans rfl, (blk_cell BK142.out 4).trans rfl, (blk_cell BK142.out 5).trans rfl, (blk_cell BK142.out 6).trans rfl, (blk_cell BK142.out 7).trans rfl, (blk_cell BK138.out 0).trans rfl, (blk_cell BK138.out 1).trans rfl, (blk_cell BK138.out 2).trans rfl, (blk_cell BK138.out 3).trans rfl, (blk_cell BK138.out 4).trans rfl, (blk_cell BK138.out 5).trans rfl, (blk_cell BK138.out 6).trans rfl⟩ (fun hHeld => ?_)
       clear hK K
       refine norm_ (a' := ?_) ?_ ?_
       rotate_left
       ·show Act.put _ (some 37) _ = _
        simp only [Act.put, nrm]
        rfl
       refine one_ (i := 6) (N := none) #[true, true, true, true, true, true, true, false] rfl rfl (one_of HT_.out (by kernel_rfl)) (by decide) (fun K hK => ?_)
       have hs62 : w61.cell? ⟨gb139, 0, none⟩ = some (.int .i64 x140000_27) := (blk_cell BK139.out 0).trans rfl
       have hfs62 := blk_frozen BK139.out 0
       have hns62_0 := NB136_139.out
       have hns62_1 := NB137_139.out
       have hns62_2 := NB138_139.out
       have hns62_4 := NB142_139.out
       have hms62_0 := NB139_136.out
       have hms62_1 := NB139_137.out
       have hms62_2 := NB139_138.out
       have hms62_4 := NB139_142.out
       have hs63 : w61.cell? ⟨gb139, 1, none⟩ = some (.int .i64 x140001_27) := (blk_cell BK139.out 1).trans rfl
       have hfs63 := blk_frozen BK139.out 1
       have hns63_0 := NB136_139.out
       have hns63_1 := NB137_139.out
       have hns63_2 := NB138_139.out
       have hns63_4 := NB142_139.out
       have hms63_0 := NB139_136.out
       have hms63_1 := NB139_137.out
       have hms63_2 := NB139_138.out
       have hms63_4 := NB139_142.out
       have hs64 : w61.cell? ⟨gb139, 2, none⟩ = some (.int .i64 x140002_27) := (blk_cell BK139.out 2).trans rfl
       have hfs64 := blk_frozen BK139.out 2
       have hns64_0 := NB136_139.out
       have hns64_1 := NB137_139.out
       have hns64_2 := NB138_139.out
       have hns64_4 := NB142_139.out
       have hms64_0 := NB139_136.out
       have hms64_1 := NB139_137.out
       have hms64_2 := NB139_138.out
       have hms64_4 := NB139_142.out
       have hs65 : w61.cell? ⟨gb139, 3, none⟩ = some (.int .i64 x140003_27) := (blk_cell BK139.out 3).trans rfl
       have hfs65 := blk_frozen BK139.out 3
       have hns65_0 := NB136_139.out
       have hns65_1 := NB137_139.out
       have hns65_2 := NB138_139.out
       have hns65_4 := NB142_139.out
       have hms65_0 := NB139_136.out
       have hms65_1 := NB139_137.out
       have hms65_2 := NB139_138.out
       have hms65_4 := NB139_142.out
       have hs66 : w61.cell? ⟨gb139, 4, none⟩ = some (.int .i64 x140004_27) := (blk_cell BK139.out 4).trans rfl
       have hfs66 := blk_frozen BK139.out 4
       have hns66_0 := NB136_139.out
       have hns66_1 := NB137_139.out
       have hns66_2 := NB138_139.out
       have hns66_4 := NB142_139.out
       have hms66_0 := NB139_136.out
       have hms66_1 := NB139_137.out
       have hms66_2 := NB139_138.out
       have hms66_4 := NB139_142.out
       have hs67 : w61.cell? ⟨gb139, 5, none⟩ = some (.int .i64 x140005_27) := (blk_cell BK139.out 5).trans rfl
       have hfs67 := blk_frozen BK139.out 5
       have hns67_0 := NB136_139.out
       have hns67_1 := NB137_139.out
       have hns67_2 := NB138_139.out
       have hns67_4 := NB142_139.out
       have hms67_0 := NB139_136.out
       have hms67_1 := NB139_137.out
       have hms67_2 := NB139_138.out
       have hms67_4 := NB139_142.out
       have hs68 : w61.cell? ⟨gb139, 6, none⟩ = some (.int .i64 x140006_27) := (blk_cell BK139.out 6).trans rfl
       have hfs68 := blk_frozen BK139.out 6
       have hns68_0 := NB136_139.out
       have hns68_1 := NB137_139.out
       have hns68_2 := NB138_139.out
       have hns68_4 := NB142_139.out
       have hms68_0 := NB139_136.out
       have hms68_1 := NB139_137.out
       have hms68_2 := NB139_138.out
       have hms68_4 := NB139_142.out
       have hs69 : w61.cell? ⟨gb139, 7, none⟩ = some (.string x140007_27) := (blk_cell BK139.out 7).trans rfl
       have hfs69 := blk_frozen BK139.out 7
       have hns69_0 := NB136_139.out
       have hns69_1 := NB137_139.out
       have hns69_2 := NB138_139.out
       have hns69_4 := NB142_139.out
       have hms69_0 := NB139_136.out
       have hms69_1 := NB139_137.out
       have hms69_2 := NB139_138.out
       have hms69_4 := NB139_142.out
       refine skip_ (w1 := ?_) (by rfl) rfl ?_ ?_
       rotate_left
       ·go_simp
        rfl
       refine hK.out _ _ ⟨((far8 (g := gb139) NB137_139.out).trans (hHeld.1)), ((far8 (g := gb139) NB137_139.out).trans (hHeld.2.1)), ((far8 (g := gb139) NB137_139.out).trans (hHeld.2.2.1)), ((far8 (g := gb139) NB137_139.out).trans (hHeld.2.2.2.1)), ((far8 (g := gb139) NB137_139.out).trans (hHeld.2.2.2.2.1)), ((far8 (g := gb139) NB137_139.out).trans (hHeld.2.2.2.2.2.1)), ((far8 (g := gb139) NB137_139.out).trans (hHeld.2.2.2.2.2.2.1)), ((far8 (g := gb139) NB137_139.out).trans (hHeld.2.2.2.2.2.2.2.1)), ((far8 (g := gb139) NB142_139.out).trans (hHeld.2.2.2.2.2.2.2.2.1)), ((far8 (g := gb139) NB142_139.out).trans (hHeld.2.2.2.2.2.2.2.2.2.1)), ((far8 (g := gb139) NB142_139.out).trans (hHeld.2.2.2.2.2.2.2.2.2.2.1)), ((far8 (g := gb139) NB142_139.out).trans (hHeld.2.2.2.2.2.2.2.2.2.2.2.1)), ((far8 (g := gb139) NB142_139.out).trans (hHeld.2.2.2.2.2.2.2.2.2.2.2.2.1)), ((far8 (g := gb139) NB142_139.out).trans (hHeld.2.2.2.2.2.2.2.2.2.2.2.2.2.1)), ((far8 (g := gb139) NB142_139.out).trans (hHeld.2.2.2.2.2.2.2.2.2.2.2.2.2.2.1)), ((far8 (g := gb139) NB142_139.out).trans (hHeld.2.2.2.2.2.2.2.2.2.2.2.2.2.2.2.1)), ((far8 (g := gb139) NB138_139.out).trans (hHeld.2.2.2.2.2.2.2.2.2.2.2.2.2.2.2.2.1)), ((far8 (g := gb139) NB138_139.out).trans (hHeld.2.2.2.2.2.2.2.2.2.2.2.2.2.2.2.2.2.1)), ((far8 (g := gb139) NB138_139.out).trans (hHeld.2.2.2.2.2.2.2.2.2.2.2.2.2.2.2.2.2.2.1)), ((far8 (g := gb139) NB138_139.out).trans (hHeld.2.2.2.2.2.2.2.2.2.2.2.2.2.2.2.2.2.2.2.1)), ((far8 (g := gb139) NB138_139.out).trans (hHeld.2.2.2.2.2.2.2.2.2.2.2.2.2.2.2.2.2.2.2.2.1)), ((far8 (g := gb139) NB138_139.out).trans (hHeld.2.2.2.2.2.2.2.2.2.2.2.2.2.2.2.2.2.2.2.2.2.1)), ((far8 (g := gb139) NB138_139.out).trans (hHeld.2.2.2.2.2.2.2.2.2.2.2.2.2.2.2.2.2.2.2.2.2.2))⟩ (fun hHeld => ?_)
       clear hK K
       refine pstep 7 (some 7) #[true, true, true, true, true, true, true, true] HT_.out ?_
       refine done_ (done_of HT_.out (by kernel_rfl)) ?_
       try go_wp2
       refine bodyPost_ret (results_ct rfl _ _ gb139 27 #[.int .i64 t143, .int .i64 t144, .int .i64 t145, .int .i64 t146, .int .i64 t147, .int .i64 t148, .int .i64 t149, .string t150] (0, 0) _ rfl (by (with_reducible repeat (first | refine blk_drewN ?_ _ | refine blk_drew ?_ | refine blk_alloc ?_ _)); refine blk_put (cs := #[.int .i64 t143, .int .i64 t144, .int .i64 t145, .int .i64 t146, .int .i64 t147, .int .i64 t148, .int .i64 t149, .string x140007_27]) ?_ 7 _ rfl; (with_reducible repeat (first | refine blk_drewN ?_ _ | refine blk_drew ?_ | refine blk_alloc ?_ _)); refine blk_put (cs := #[.int .i64 t143, .int .i64 t144, .int .i64 t145, .int .i64 t146, .int .i64 t147, .int .i64 t148, .int .i64 x140006_27, .string x140007_27]) ?_ 6 _ rfl; (with_reducible repeat (first | refine blk_drewN ?_ _ | refine blk_drew ?_ | refine blk_alloc ?_ _)); refine blk_put (cs := #[.int .i64 t143, .int .i64 t144, .int .i64 t145, .int .i64 t146, .int .i64 t147, .int .i64 x140005_27, .int .i64 x140006_27, .string x140007_27]) ?_ 5 _ rfl; (with_reducible repeat (first | refine blk_drewN ?_ _ | refine blk_drew ?_ | refine blk_alloc ?_ _)); refine blk_put (cs := #[.int .i64 t143, .int .i64 t144, .int .i64 t145, .int .i64 t146, .int .i64 x140004_27, .int .i64 x140005_27, .int .i64 x140006_27, .string x140007_27]) ?_ 4 _ rfl; (with_reducible repeat (first | refine blk_drewN ?_ _ | refine blk_drew ?_ | refine blk_alloc ?_ _)); refine blk_put (cs := #[.int .i64 t143, .int .i64 t144, .int .i64 t145, .int .i64 x140003_27, .int .i64 x140004_27, .int .i64 x140005_27, .int .i64 x140006_27, .string x140007_27]) ?_ 3 _ rfl; (with_reducible repeat (first | refine blk_drewN ?_ _ | refine blk_drew ?_ | refine blk_alloc ?_ _)); refine blk_put (cs := #[.int .i64 t143, .int .i64 t144, .int .i64 x140002_27, .int .i64 x140003_27, .int .i64 x140004_27, .int .i64 x140005_27, .int .i64 x140006_27, .string x140007_27]) ?_ 2 _ rfl; (with_reducible repeat (first | refine blk_drewN ?_ _ | refine blk_drew ?_ | refine blk_alloc ?_ _)); refine blk_put (cs := #[.int .i64 t143, .int .i64 x140001_27, .int .i64 x140002_27, .int .i64 x140003_27, .int .i64 x140004_27, .int .i64 x140005_27, .int .i64 x140006_27, .string x140007_27]) ?_ 1 _ rfl; (with_reducible repeat (first | refine blk_drewN ?_ _ | refine blk_drew ?_ | refine blk_alloc ?_ _)); refine blk_put (cs := #[.int .i64 x140000_27, .int .i64 x140001_27, .int .i64 x140002_27, .int .i64 x140003_27, .int .i64 x140004_27, .int .i64 x140005_27, .int .i64 x140006_27, .string x140007_27]) ?_ 0 _ rfl; (with_reducible repeat (first | refine blk_drewN ?_ _ | refine blk_drew ?_ | refine blk_alloc ?_ _)); exact BK139.out) Try.underlying27 rfl (by kernel_rfl)) rfl ?_
       exact ⟨_, by first | rfl | (simp [errW_none, errW_some] <;> rfl) | (simp [*, errW_none, errW_some] <;> rfl), by (with_reducible repeat (first | apply Kd.R_alloc | apply Kd.R_drewN | apply Kd.R_drew)); exact Kd.R_mono (Kd.R_far (p := ⟨gb139, 7, none⟩) (Kd.R_far (p := ⟨gb139, 6, none⟩) (Kd.R_far (p := ⟨gb139, 5, none⟩) (Kd.R_far (p := ⟨gb139, 4, none⟩) (Kd.R_far (p := ⟨gb139, 3, none⟩) (Kd.R_far (p := ⟨gb139, 2, none⟩) (Kd.R_far (p := ⟨gb139, 1, none⟩) (Kd.R_far (p := ⟨gb139, 0, none⟩) (Kd.R_types HO153.out BK139.out (by decide)) (fun _ hk => hk.2) (.int .i64 t143)) (fun _ hk => hk.2) (.int .i64 t144)) (fun _ hk => hk.2) (.int .i64 t145)) (fun _ hk => hk.2) (.int .i64 t146)) (fun _ hk => hk.2) (.int .i64 t147)) (fun _ hk => hk.2) (.int .i64 t148)) (fun _ hk => hk.2) (.int .i64 t149)) (fun _ hk => hk.2) (.string t150)) (fun _ hk => trivial), by repeat (first | (with_reducible first | exact HB.out | apply below_alloc | apply pw_below_drewN | apply below_drew1 | refine below_set ?_ GE136.out | refine below_set ?_ GE137.out | refine below_set ?_ GE138.out | refine below_set ?_ GE139.out | refine below_set ?_ GE142.out) | exact HB.out)⟩
     case rest =>
      clear HC37
      try clear c1
      try clear c2
      try clear p2
      try clear c3
      try clear c4
      try clear c5
      try clear c10
      try clear c10b0
      try clear c10b1
      try clear c11
      try clear c12
      try clear c13
      try clear c14
      try clear c17
      try clear c18
      try clear c20
      try clear c21
      try clear c23
      try clear c24
      try clear c25
      try clear c27
      try clear c28
      try clear c29
      try clear c30
      try clear c31
      try clear c32
      try clear c34
      try clear c35
      try clear c38
      try clear c39
      try clear c40
      try clear c43
      try clear c44
      try clear c45
      try clear c46
      try clear c52
      try clear c53
      try clear c55
      try clear c55b0
      try clear c55b1
      try clear hcz15_0
      try clear hcz15_1
      try clear hcz15_2
      try clear hcz19_0
      try clear hcz19_1
      try clear hcz19_2
      try clear hcz19_3
      try clear hcz19_4
      try clear hcz19_5
      try clear hcz19_6
      try clear hcz19_7
      try clear hcz21_0
      try clear hcz21_1
      try clear hcz21_2
      try clear hcz21_3
      try clear hcz21_4
      try clear hcz21_5
      try clear hcz21_6
      try clear hcz26_0
      try clear hcz26_1
      try clear hcz26_2
      try clear hcz33_0
      try clear hcz33_1
      try clear hcz33_2
      try clear hcz33_3
      try clear hcz33_4
      try clear hcz33_5
      try clear hcz33_6
      try clear hcz33_7
      try clear hcz36_0
      try clear hcz36_1
      try clear hcz36_2
      try clear hcz36_3
      try clear hcz36_4
      try clear hcz36_5
      try clear hcz36_6
      try clear hcz36_7
      try clear hcz41_0
      try clear hcz41_1
      try clear hcz41_2
      try clear hcz41_3
      try clear hcz41_4
      try clear hcz41_5
      try clear hcz41_6
      try clear hcz41_7
      try clear hcz47_0
      try clear hcz47_1
      try clear hcz47_2
      try clear hcz47_3
      try clear hcz47_4
      try clear hcz47_5
      try clear hcz47_6
      try clear hcz47_7
      try clear hcz54_0
      try clear hcz54_1
      try clear hcz54_2
      try clear hcz54_3
      try clear hcz54_4
      try clear hcz54_5
      try clear hcz54_6
      try clear hfz15_0
      try clear hfz15_1
      try clear hfz15_2
      try clear hfz19_0
      try clear hfz19_1
      try clear hfz19_2
      try clear hfz19_3
      try clear hfz19_4
      try clear hfz19_5
      try clear hfz19_6
      try clear hfz19_7
      try clear hfz21_0
      try clear hfz21_1
      try clear hfz21_2
      try clear hfz21_3
      try clear hfz21_4
      try clear hfz21_5
      try clear hfz21_6
      try clear hfz26_0
      try clear hfz26_1
      try clear hfz26_2
      try clear hfz33_0
      try clear hfz33_1
      try clear hfz33_2
      try clear hfz33_3
      try clear hfz33_4
      try clear hfz33_5
      try clear hfz33_6
      try clear hfz33_7
      try clear hfz36_0
      try clear hfz36_1
      try clear hfz36_2
      try clear hfz36_3
      try clear hfz36_4
      try clear hfz36_5
      try clear hfz36_6
      try clear hfz36_7
      try clear hfz41_0
      try clear hfz41_1
      try clear hfz41_2
      try clear hfz41_3
      try clear hfz41_4
      try clear hfz41_5
      try clear hfz41_6
      try clear hfz41_7
      try clear hfz47_0
      try clear hfz47_1
      try clear hfz47_2
      try clear hfz47_3
      try clear hfz47_4
      try clear hfz47_5
      try clear hfz47_6
      try clear hfz47_7
      try clear hfz54_0
      try clear hfz54_1
      try clear hfz54_2
      try clear hfz54_3
      try clear hfz54_4
      try clear hfz54_5
      try clear hfz54_6
      try clear p2
      obtain ⟨kq, x140000_36, x140001_36, x140002_36, x140003_36, x140004_36, x140005_36, x140006_36, x140007_36, HA, HJ36, BK136, BK137, BK138, BK139, BK142, HB⟩ := hcut
      cases kq with
      | zero => exact absurd HA.out (by simp [sync_Step.j2])
      | succ kj36 =>
       have H := HA.out
       clear HA
       simp only [sync_Step.j2] at H
       by_cases c70 : a1_0 = 1
       ·rw [if_pos c70] at H
        have c70b0 : (a1_0 == 1) = true := beq_iff_eq.mpr c70
        have c70b1 : (a1_0 != 1) = false := bne_eq_false_iff_eq.mpr c70
        clear c70
        obtain ⟨y176, hy176⟩ : ∃ y_ : List Int, y_ = (([(48 + ((a2_3) % 256)) % 256] : List Int)) := ⟨_, rfl⟩
        replace H : (if a1_7.size + (strOfNums y176).size ≤ 9223372036854775807 then (if ((a1_7 ++ (strOfNums y176)).size : Int) < (wrap64 (8 * a0_1)) then (some (a1_0, a2_1, a1_2, a1_3, a1_4, a1_5, a2_2, a1_7 ++ (strOfNums y176), ([] : List (S32)))) else ((bits_Bytes.f kj36 (a1_7 ++ (strOfNums y176)) a0_2).bind fun bt179 => ((sync_search.f a1_0 a2_1 a1_2 a1_3 a1_4 a1_5 a2_2 (a1_7 ++ (strOfNums y176))).bind fun bt181 => (some (bt181.1, bt181.2.1, bt181.2.2.1, bt181.2.2.2.1, bt181.2.2.2.2.1, bt181.2.2.2.2.2.1, bt181.2.2.2.2.2.2.1, bt181.2.2.2.2.2.2.2, (([(⟨5, a1_2, a2_2, 0, 0, bt179.1, 0⟩ : S32)] : List (S32)))))))) else (none)) = some (r1, r2, r3, r4, r5, r6, r7, r8, r9) := by first | (rw [hy176]; with_reducible exact H) | (have H2_ := (Option.bind_some _ _).symm.trans H; rw [hy176]; with_reducible exact H2_) | (have H2_ := (Option.bind_some _ _).symm.trans H; with_reducible exact H2_) | with_reducible exact H | (rw [hy176]; exact H) | exact H
        have Ny176 := Aside0.mk hy176
        clear hy176
        by_cases c71 : a1_7.size + (strOfNums y176).size ≤ 9223372036854775807
        ·rw [if_pos c71] at H
         have c71b0 := eq_true c71
         have c71b1 : decide (a1_7.size + (strOfNums y176).size ≤ 9223372036854775807) = true := decide_eq_true c71
         try have c71b2 : (9223372036854775807 < a1_7.size + (strOfNums y176).size) = False := eq_false (Nat.not_lt.2 c71)
         by_cases c72 : ((a1_7 ++ (strOfNums y176)).size : Int) < (wrap64 (8 * a0_1))
         ·rw [if_pos c72] at H
          have c72b0 : decide (((a1_7 ++ (strOfNums y176)).size : Int) < (wrap64 (8 * a0_1))) = true := decide_eq_true c72
          (try (have c72z0 := c72b0; simp only [ByteArray.size_append, Int.natCast_add] at c72z0))
          clear c72
          simp only [Option.some.injEq, Prod.mk.injEq] at H
          obtain ⟨rfl, rfl, rfl, rfl, rfl, rfl, rfl, rfl, rfl⟩ := H
          have hnb73 := NB137_136.out
          have hnc73 := NB136_137.out
          have hnb74 := NB137_138.out
          have hnc74 := NB138_137.out
          have hnb75 := NB137_139.out
          have hnc75 := NB139_137.out
          have hnb76 := NB137_142.out
          have hnc76 := NB142_137.out
          have hcz77_0 : wc.cell? ⟨gb137, 0, none⟩ = some (.int .i64 a1_0) := (blk_cell BK137.out 0).trans rfl
          have hcz77_1 : wc.cell? ⟨gb137, 1, none⟩ = some (.int .i64 a2_1) := (blk_cell BK137.out 1).trans rfl
          have hcz77_2 : wc.cell? ⟨gb137, 2, none⟩ = some (.int .i64 a1_2) := (blk_cell BK137.out 2).trans rfl
          have hcz77_3 : wc.cell? ⟨gb137, 3, none⟩ = some (.int .i64 a1_3) := (blk_cell BK137.out 3).trans rfl
          have hcz77_4 : wc.cell? ⟨gb137, 4, none⟩ = some (.int .i64 a1_4) := (blk_cell BK137.out 4).trans rfl
          have hcz77_5 : wc.cell? ⟨gb137, 5, none⟩ = some (.int .i64 a1_5) := (blk_cell BK137.out 5).trans rfl
          have hcz77_6 : wc.cell? ⟨gb137, 6, none⟩ = some (.int .i64 a2_2) := (blk_cell BK137.out 6).trans rfl
          have hcz77_7 : wc.cell? ⟨gb137, 7, none⟩ = some (.string a1_7) := (blk_cell BK137.out 7).trans rfl
          have hfz77_0 := blk_frozen BK137.out 0
          have hfz77_1 := blk_frozen BK137.out 1
          have hfz77_2 := blk_frozen BK137.out 2
          have hfz77_3 := blk_frozen BK137.out 3
          have hfz77_4 := blk_frozen BK137.out 4
          have hfz77_5 := blk_frozen BK137.out 5
          have hfz77_6 := blk_frozen BK137.out 6
          have hfz77_7 := blk_frozen BK137.out 7
          have hnb78 := NB138_136.out
          have hnc78 := NB136_138.out
          have hnb79 := NB138_139.out
          have hnc79 := NB139_138.out
          have hnb80 := NB138_142.out
          have hnc80 := NB142_138.out
          have hcz81_0 : wc.cell? ⟨gb138, 0, none⟩ = some (.int .i64 a2_0) := (blk_cell BK138.out 0).trans rfl
          have hcz81_1 : wc.cell? ⟨gb138, 1, none⟩ = some (.int .i64 a2_1) := (blk_cell BK138.out 1).trans rfl
          have hcz81_2 : wc.cell? ⟨gb138, 2, none⟩ = some (.int .i64 a2_2) := (blk_cell BK138.out 2).trans rfl
          have hcz81_3 : wc.cell? ⟨gb138, 3, none⟩ = some (.int .i64 a2_3) := (blk_cell BK138.out 3).trans rfl
          have hcz81_4 : wc.cell? ⟨gb138, 4, none⟩ = some (.int .i64 a2_4) := (blk_cell BK138.out 4).trans rfl
          have hcz81_5 : wc.cell? ⟨gb138, 5, none⟩ = some (.string a2_5) := (blk_cell BK138.out 5).trans rfl
          have hcz81_6 : wc.cell? ⟨gb138, 6, none⟩ = some (.int .i64 a2_6) := (blk_cell BK138.out 6).trans rfl
          have hfz81_0 := blk_frozen BK138.out 0
          have hfz81_1 := blk_frozen BK138.out 1
          have hfz81_2 := blk_frozen BK138.out 2
          have hfz81_3 := blk_frozen BK138.out 3
          have hfz81_4 := blk_frozen BK138.out 4
          have hfz81_5 := blk_frozen BK138.out 5
          have hfz81_6 := blk_frozen BK138.out 6
          go_wp2_with (first | ((with_reducible refine gate_dst (N := 71) rfl ?_); refine Kd.R_lit (Kd.int .u8) _ 5 ?hg (N := 71) ?hd (xs := ([(48 + ((a2_3) % 256)) % 256] : List Int)) (inner := [.int .u8 ((48 + ((a2_3) % 256)) % 256)]) (ok := fun _ => True) (okp := fun _ => True) ?hr ?hp (fun _ hk => hk) trivial (Below.refl _ _) (Nat.le_refl _) (by simp) ?_; (case hd => rfl); (case hg => rfl); (case hr => first | (go_simp; done) | (go_simp; rfl)); (case hp => exact (Reps.one (show Kd.M (Kd.int .u8) _ _ _ ((48 + ((a2_3) % 256)) % 256) [.int .u8 ((48 + ((a2_3) % 256)) % 256)] from rfl) (Reps.none _ _))); intro v177 w82 ho83 hb hg_ hnew_; clear hg_ hnew_; (first | rw [← Ny176.out] at ho83 | (simp only [Int.reduceToNat] at ho83; rw [← Ny176.out] at ho83)); have n0_ := Aside0.mk (Kd.R_lower ho83 (below_size (hbw HB.out))); have n1_ := Aside0.mk (blkb BK136.out hb); have n2_ := Aside0.mk (blkb BK137.out hb); have n3_ := Aside0.mk (blkb BK138.out hb); have n4_ := Aside0.mk (blkb BK139.out hb); have n5_ := Aside0.mk (blkb BK142.out hb); have n6_ := Aside0.mk (below_step (hbw HB.out) hb); clear BK136; clear BK137; clear BK138; clear BK139; clear BK142; clear HB; have HO178 := n0_; have BK136 := n1_; have BK137 := n2_; have BK138 := n3_; have BK139 := n4_; have BK142 := n5_; have HB := n6_; clear n0_ n1_ n2_ n3_ n4_ n5_ n6_; clear hb ho83; have hcv84 := own_string (P := Try.prog) Try.underlying53 Try.underlying5 Try.underlying9 (Kd.own_of_R HO178.out); have hcz85_0 : w82.cell? ⟨gb137, 0, none⟩ = some (.int .i64 a1_0) := (blk_cell BK137.out 0).trans rfl; have hcz85_1 : w82.cell? ⟨gb137, 1, none⟩ = some (.int .i64 a2_1) := (blk_cell BK137.out 1).trans rfl; have hcz85_2 : w82.cell? ⟨gb137, 2, none⟩ = some (.int .i64 a1_2) := (blk_cell BK137.out 2).trans rfl; have hcz85_3 : w82.cell? ⟨gb137, 3, none⟩ = some (.int .i64 a1_3) := (blk_cell BK137.out 3).trans rfl; have hcz85_4 : w82.cell? ⟨gb137, 4, none⟩ = some (.int .i64 a1_4) := (blk_cell BK137.out 4).trans rfl; have hcz85_5 : w82.cell? ⟨gb137, 5, none⟩ = some (.int .i64 a1_5) := (blk_cell BK137.out 5).trans rfl; have hcz85_6 : w82.cell? ⟨gb137, 6, none⟩ = some (.int .i64 a2_2) := (blk_cell BK137.out 6).trans rfl; have hcz85_7 : w82.cell? ⟨gb137, 7, none⟩ = some (.string a1_7) := (blk_cell BK137.out 7).trans rfl; have hfz85_0 := blk_frozen BK137.out 0; have hfz85_1 := blk_frozen BK137.out 1; have hfz85_2 := blk_frozen BK137.out 2; have hfz85_3 := blk_frozen BK137.out 3; have hfz85_4 := blk_frozen BK137.out 4; have hfz85_5 := blk_frozen BK137.out 5; have hfz85_6 := blk_frozen BK137.out 6; have hfz85_7 := blk_frozen BK137.out 7; have hnb86 := NB136_139.out; have hnc86 := NB139_136.out; have hnb87 := NB136_142.out; have hnc87 := NB142_136.out; have hcz88_0 : w82.cell? ⟨gb136, 0, none⟩ = some (.string a0_0) := (blk_cell BK136.out 0).trans rfl; have hcz88_1 : w82.cell? ⟨gb136, 1, none⟩ = some (.int .i64 a0_1) := (blk_cell BK136.out 1).trans rfl; have hcz88_2 : w82.cell? ⟨gb136, 2, none⟩ = some (.bool a0_2) := (blk_cell BK136.out 2).trans rfl; have hfz88_0 := blk_frozen BK136.out 0; have hfz88_1 := blk_frozen BK136.out 1; have hfz88_2 := blk_frozen BK136.out 2; have hnb89 := NB139_142.out; have hnc89 := NB142_139.out; have hcz90_0 : w82.cell? ⟨gb139, 0, none⟩ = some (.int .i64 x140000_36) := (blk_cell BK139.out 0).trans rfl; have hcz90_1 : w82.cell? ⟨gb139, 1, none⟩ = some (.int .i64 x140001_36) := (blk_cell BK139.out 1).trans rfl; have hcz90_2 : w82.cell? ⟨gb139, 2, none⟩ = some (.int .i64 x140002_36) := (blk_cell BK139.out 2).trans rfl; have hcz90_3 : w82.cell? ⟨gb139, 3, none⟩ = some (.int .i64 x140003_36) := (blk_cell BK139.out 3).trans rfl; have hcz90_4 : w82.cell? ⟨gb139, 4, none⟩ = some (.int .i64 x140004_36) := (blk_cell BK139.out 4).trans rfl; have hcz90_5 : w82.cell? ⟨gb139, 5, none⟩ = some (.int .i64 x140005_36) := (blk_cell BK139.out 5).trans rfl; have hcz90_6 : w82.cell? ⟨gb139, 6, none⟩ = some (.int .i64 x140006_36) := (blk_cell BK139.out 6).trans rfl; have hcz90_7 : w82.cell? ⟨gb139, 7, none⟩ = some (.string x140007_36) := (blk_cell BK139.out 7).trans rfl; have hfz90_0 := blk_frozen BK139.out 0; have hfz90_1 := blk_frozen BK139.out 1; have hfz90_2 := blk_frozen BK139.out 2; have hfz90_3 := blk_frozen BK139.out 3; have hfz90_4 := blk_frozen BK139.out 4; have hfz90_5 := blk_frozen BK139.out 5; have hfz90_6 := blk_frozen BK139.out 6; have hfz90_7 := blk_frozen BK139.out 7))
          refine bodyPost_ret (results_ct rfl _ _ gb139 27 #[.int .i64 a1_0, .int .i64 a2_1, .int .i64 a1_2, .int .i64 a1_3, .int .i64 a1_4, .int .i64 a1_5, .int .i64 a2_2, .string (a1_7 ++ (strOfNums y176))] (0, 0) _ rfl (by (with_reducible repeat (first | refine blk_drewN ?_ _ | refine blk_drew ?_ | refine blk_alloc ?_ _)); refine blk_put (cs := #[.int .i64 a1_0, .int .i64 a2_1, .int .i64 a1_2, .int .i64 a1_3, .int .i64 a1_4, .int .i64 a1_5, .int .i64 a2_2, .string x140007_36]) ?_ 7 _ rfl; (with_reducible repeat (first | refine blk_drewN ?_ _ | refine blk_drew ?_ | refine blk_alloc ?_ _)); refine blk_put (cs := #[.int .i64 a1_0, .int .i64 a2_1, .int .i64 a1_2, .int .i64 a1_3, .int .i64 a1_4, .int .i64 a1_5, .int .i64 x140006_36, .string x140007_36]) ?_ 6 _ rfl; (with_reducible repeat (first | refine blk_drewN ?_ _ | refine blk_drew ?_ | refine blk_alloc ?_ _)); refine blk_put (cs := #[.int .i64 a1_0, .int .i64 a2_1, .int .i64 a1_2, .int .i64 a1_3, .int .i64 a1_4, .int .i64 x140005_36, .int .i64 x140006_36, .string x140007_36]) ?_ 5 _ rfl; (with_reducible repeat (first | refine blk_drewN ?_ _ | refine blk_drew ?_ | refine blk_alloc ?_ _)); refine blk_put (cs := #[.int .i64 a1_0, .int .i64 a2_1, .int .i64 a1_2, .int .i64 a1_3, .int .i64 x140004_36, .int .i64 x140005_36, .int .i64 x140006_36, .string x140007_36]) ?_ 4 _ rfl; (with_reducible repeat (first | refine blk_drewN ?_ _ | refine blk_drew ?_ | refine blk_alloc ?_ _)); refine blk_put (cs := #[.int .i64 a1_0, .int .i64 a2_1, .int .i64 a1_2, .int .i64 x140003_36, .int .i64 x140004_36, .int .i64 x140005_36, .int .i64 x140006_36, .string x140007_36]) ?_ 3 _ rfl; (with_reducible repeat (first | refine blk_drewN ?_ _ | refine blk_drew ?_ | refine blk_alloc ?_ _)); refine blk_put (cs := #[.int .i64 a1_0, .int .i64 a2_1, .int .i64 x140002_36, .int .i64 x140003_36, .int .i64 x140004_36, .int .i64 x140005_36, .int .i64 x140006_36, .string x140007_36]) ?_ 2 _ rfl; (with_reducible repeat (first | refine blk_drewN ?_ _ | refine blk_drew ?_ | refine blk_alloc ?_ _)); refine blk_put (cs := #[.int .i64 a1_0, .int .i64 x140001_36, .int .i64 x140002_36, .int .i64 x140003_36, .int .i64 x140004_36, .int .i64 x140005_36, .int .i64 x140006_36, .string x140007_36]) ?_ 1 _ rfl; (with_reducible repeat (first | refine blk_drewN ?_ _ | refine blk_drew ?_ | refine blk_alloc ?_ _)); refine blk_put (cs := #[.int .i64 x140000_36, .int .i64 x140001_36, .int .i64 x140002_36, .int .i64 x140003_36, .int .i64 x140004_36, .int .i64 x140005_36, .int .i64 x140006_36, .string x140007_36]) ?_ 0 _ rfl; (with_reducible repeat (first | refine blk_drewN ?_ _ | refine blk_drew ?_ | refine blk_alloc ?_ _)); refine blk_far ?_ NB139_137.out _; (with_reducible repeat (first | refine blk_drewN ?_ _ | refine blk_drew ?_ | refine blk_alloc ?_ _)); exact BK139.out) Try.underlying27 rfl (by kernel_rfl)) rfl ?_
          exact ⟨_, by first | rfl | (simp [errW_none, errW_some] <;> rfl) | (simp [*, errW_none, errW_some] <;> rfl), by first | exact Kd.R_nil _ _ _ _ _ | exact Kd.N_nil _ _ _ _ _ | exact Kd.V_nil _ _ _ _ _ | exact Kd.Q_nil _ _ _ _ _ | exact Kd.S_nil _ _ _ _ _, by repeat (first | (with_reducible first | exact HB.out | apply below_alloc | apply pw_below_drewN | apply below_drew1 | refine below_set ?_ GE136.out | refine below_set ?_ GE137.out | refine below_set ?_ GE138.out | refine below_set ?_ GE139.out | refine below_set ?_ GE142.out) | exact HB.out)⟩
         ·rw [if_neg c72] at H
          have c72b0 : decide (((a1_7 ++ (strOfNums y176)).size : Int) < (wrap64 (8 * a0_1))) = false := decide_eq_false c72
          (try (have c72z0 := c72b0; simp only [ByteArray.size_append, Int.natCast_add] at c72z0))
          clear c72
          replace H := Option.bind_eq_some_iff.mp H
          obtain ⟨⟨t179, t180⟩, A910, H⟩ := H
          replace H : ((sync_search.f a1_0 a2_1 a1_2 a1_3 a1_4 a1_5 a2_2 (a1_7 ++ (strOfNums y176))).bind fun bt181 => (some (bt181.1, bt181.2.1, bt181.2.2.1, bt181.2.2.2.1, bt181.2.2.2.2.1, bt181.2.2.2.2.2.1, bt181.2.2.2.2.2.2.1, bt181.2.2.2.2.2.2.2, (([(⟨5, a1_2, a2_2, 0, 0, t179, 0⟩ : S32)] : List (S32)))))) = some (r1, r2, r3, r4, r5, r6, r7, r8, r9) := H
          have A91 := Aside0.mk A910
          clear A910
          replace H := Option.bind_eq_some_iff.mp H
          obtain ⟨⟨t181, t182, t183, t184, t185, t186, t187, t188⟩, A920, H⟩ := H
          replace H : (some (t181, t182, t183, t184, t185, t186, t187, t188, (([(⟨5, a1_2, a2_2, 0, 0, t179, 0⟩ : S32)] : List (S32))))) = some (r1, r2, r3, r4, r5, r6, r7, r8, r9) := H
          have A92 := Aside0.mk A920
          clear A920
          obtain ⟨y189, hy189⟩ : ∃ y_ : List (S32), y_ = (([(⟨5, a1_2, a2_2, 0, 0, t179, 0⟩ : S32)] : List (S32))) := ⟨_, rfl⟩
          replace H : (some (t181, t182, t183, t184, t185, t186, t187, t188, y189)) = some (r1, r2, r3, r4, r5, r6, r7, r8, r9) := by first | (rw [hy189]; with_reducible exact H) | (have H2_ := (Option.bind_some _ _).symm.trans H; rw [hy189]; with_reducible exact H2_) | (have H2_ := (Option.bind_some _ _).symm.trans H; with_reducible exact H2_) | with_reducible exact H | (rw [hy189]; exact H) | exact H
          have Ny189 := Aside0.mk hy189
          clear hy189
          simp only [Option.some.injEq, Prod.mk.injEq] at H
          obtain ⟨rfl, rfl, rfl, rfl, rfl, rfl, rfl, rfl, rfl⟩ := H
          have hnb93 := NB137_136.out
          have hnc93 := NB136_137.out
          have hnb94 := NB137_138.out
          have hnc94 := NB138_137.out
          have hnb95 := NB137_139.out
          have hnc95 := NB139_137.out
          have hnb96 := NB137_142.out
          have hnc96 := NB142_137.out
          have hcz97_0 : wc.cell? ⟨gb137, 0, none⟩ = some (.int .i64 a1_0) := (blk_cell BK137.out 0).trans rfl
          have hcz97_1 : wc.cell? ⟨gb137, 1, none⟩ = some (.int .i64 a2_1) := (blk_cell BK137.out 1).trans rfl
          have hcz97_2 : wc.cell? ⟨gb137, 2, none⟩ = some (.int .i64 a1_2) := (blk_cell BK137.out 2).trans rfl
          have hcz97_3 : wc.cell? ⟨gb137, 3, none⟩ = some (.int .i64 a1_3) := (blk_cell BK137.out 3).trans rfl
          have hcz97_4 : wc.cell? ⟨gb137, 4, none⟩ = some (.int .i64 a1_4) := (blk_cell BK137.out 4).trans rfl
          have hcz97_5 : wc.cell? ⟨gb137, 5, none⟩ = some (.int .i64 a1_5) := (blk_cell BK137.out 5).trans rfl
          have hcz97_6 : wc.cell? ⟨gb137, 6, none⟩ = some (.int .i64 a2_2) := (blk_cell BK137.out 6).trans rfl
          have hcz97_7 : wc.cell? ⟨gb137, 7, none⟩ = some (.string a1_7) := (blk_cell BK137.out 7).trans rfl
          have hfz97_0 := blk_frozen BK137.out 0
          have hfz97_1 := blk_frozen BK137.out 1
          have hfz97_2 := blk_frozen BK137.out 2
          have hfz97_3 := blk_frozen BK137.out 3
          have hfz97_4 := blk_frozen BK137.out 4
          have hfz97_5 := blk_frozen BK137.out 5
          have hfz97_6 := blk_frozen BK137.out 6
          have hfz97_7 := blk_frozen BK137.out 7
          have hnb98 := NB138_136.out
          have hnc98 := NB136_138.out
          have hnb99 := NB138_139.out
          have hnc99 := NB139_138.out
          have hnb100 := NB138_142.out
          have hnc100 := NB142_138.out
          have hcz101_0 : wc.cell? ⟨gb138, 0, none⟩ = some (.int .i64 a2_0) := (blk_cell BK138.out 0).trans rfl
          have hcz101_1 : wc.cell? ⟨gb138, 1, none⟩ = some (.int .i64 a2_1) := (blk_cell BK138.out 1).trans rfl
          have hcz101_2 : wc.cell? ⟨gb138, 2, none⟩ = some (.int .i64 a2_2) := (blk_cell BK138.out 2).trans rfl
          have hcz101_3 : wc.cell? ⟨gb138, 3, none⟩ = some (.int .i64 a2_3) := (blk_cell BK138.out 3).trans rfl
          have hcz101_4 : wc.cell? ⟨gb138, 4, none⟩ = some (.int .i64 a2_4) := (blk_cell BK138.out 4).trans rfl
          have hcz101_5 : wc.cell? ⟨gb138, 5, none⟩ = some (.string a2_5) := (blk_cell BK138.out 5).trans rfl
          have hcz101_6 : wc.cell? ⟨gb138, 6, none⟩ = some (.int .i64 a2_6) := (blk_cell BK138.out 6).trans rfl
          have hfz101_0 := blk_frozen BK138.out 0
          have hfz101_1 := blk_frozen BK138.out 1
          have hfz101_2 := blk_frozen BK138.out 2
          have hfz101_3 := blk_frozen BK138.out 3
          have hfz101_4 := blk_frozen BK138.out 4
          have hfz101_5 := blk_frozen BK138.out 5
          have hfz101_6 := blk_frozen BK138.out 6
          try go_wp2_with (first | ((with_reducible refine gate_dst (N := 71) rfl ?_); refine Kd.R_lit (Kd.int .u8) _ 5 ?hg (N := 71) ?hd (xs := ([(48 + ((a2_3) % 256)) % 256] : List Int)) (inner := [.int .u8 ((48 + ((a2_3) % 256)) % 256)]) (ok := fun _ => True) (okp := fun _ => True) ?hr ?hp (fun _ hk => hk) trivial (Below.refl _ _) (Nat.le_refl _) (by simp) ?_; (case hd => rfl); (case hg => rfl); (case hr => first | (go_simp; done) | (go_simp; rfl)); (case hp => exact (Reps.one (show Kd.M (Kd.int .u8) _ _ _ ((48 + ((a2_3) % 256)) % 256) [.int .u8 ((48 + ((a2_3) % 256)) % 256)] from rfl) (Reps.none _ _))); intro v177 w102 ho103 hb hg_ hnew_; clear hg_ hnew_; (first | rw [← Ny176.out] at ho103 | (simp only [Int.reduceToNat] at ho103; rw [← Ny176.out] at ho103)); have n0_ := Aside0.mk (Kd.R_lower ho103 (below_size (hbw HB.out))); have n1_ := Aside0.mk (blkb BK136.out hb); have n2_ := Aside0.mk (blkb BK137.out hb); have n3_ := Aside0.mk (blkb BK138.out hb); have n4_ := Aside0.mk (blkb BK139.out hb); have n5_ := Aside0.mk (blkb BK142.out hb); have n6_ := Aside0.mk (below_step (hbw HB.out) hb); clear BK136; clear BK137; clear BK138; clear BK139; clear BK142; clear HB; have HO178 := n0_; have BK136 := n1_; have BK137 := n2_; have BK138 := n3_; have BK139 := n4_; have BK142 := n5_; have HB := n6_; clear n0_ n1_ n2_ n3_ n4_ n5_ n6_; clear hb ho103; have hcv104 := own_string (P := Try.prog) Try.underlying53 Try.underlying5 Try.underlying9 (Kd.own_of_R HO178.out); have hcz105_0 : w102.cell? ⟨gb137, 0, none⟩ = some (.int .i64 a1_0) := (blk_cell BK137.out 0).trans rfl; have hcz105_1 : w102.cell? ⟨gb137, 1, none⟩ = some (.int .i64 a2_1) := (blk_cell BK137.out 1).trans rfl; have hcz105_2 : w102.cell? ⟨gb137, 2, none⟩ = some (.int .i64 a1_2) := (blk_cell BK137.out 2).trans rfl; have hcz105_3 : w102.cell? ⟨gb137, 3, none⟩ = some (.int .i64 a1_3) := (blk_cell BK137.out 3).trans rfl; have hcz105_4 : w102.cell? ⟨gb137, 4, none⟩ = some (.int .i64 a1_4) := (blk_cell BK137.out 4).trans rfl; have hcz105_5 : w102.cell? ⟨gb137, 5, none⟩ = some (.int .i64 a1_5) := (blk_cell BK137.out 5).trans rfl; have hcz105_6 : w102.cell? ⟨gb137, 6, none⟩ = some (.int .i64 a2_2) := (blk_cell BK137.out 6).trans rfl; have hcz105_7 : w102.cell? ⟨gb137, 7, none⟩ = some (.string a1_7) := (blk_cell BK137.out 7).trans rfl; have hfz105_0 := blk_frozen BK137.out 0; have hfz105_1 := blk_frozen BK137.out 1; have hfz105_2 := blk_frozen BK137.out 2; have hfz105_3 := blk_frozen BK137.out 3; have hfz105_4 := blk_frozen BK137.out 4; have hfz105_5 := blk_frozen BK137.out 5; have hfz105_6 := blk_frozen BK137.out 6; have hfz105_7 := blk_frozen BK137.out 7; have hnb106 := NB136_139.out; have hnc106 := NB139_136.out; have hnb107 := NB136_142.out; have hnc107 := NB142_136.out; have hcz108_0 : w102.cell? ⟨gb136, 0, none⟩ = some (.string a0_0) := (blk_cell BK136.out 0).trans rfl; have hcz108_1 : w102.cell? ⟨gb136, 1, none⟩ = some (.int .i64 a0_1) := (blk_cell BK136.out 1).trans rfl; have hcz108_2 : w102.cell? ⟨gb136, 2, none⟩ = some (.bool a0_2) := (blk_cell BK136.out 2).trans rfl; have hfz108_0 := blk_frozen BK136.out 0; have hfz108_1 := blk_frozen BK136.out 1; have hfz108_2 := blk_frozen BK136.out 2) | ((with_reducible refine gate_callee (f := 33) rfl ?_); refine goesL_ (some 88) rfl rfl Try.func33 (by kernel_rfl) rfl #[.string (a1_7 ++ (strOfNums y176)), .bool a0_2] rfl (by (try simp only [List.map_toArray, List.map_cons, List.map_nil]); first | done | rfl | (simp only [List.length_drop, List.length_take]; rfl)) ?_; (with_reducible refine (bits_Bytes.calls kj36 (a1_7 ++ (strOfNums y176)) a0_2 t179 t180 _ A91.out).mono ?_); rintro e w109 ⟨rfl, hb⟩; refine ⟨_, rfl, ?_⟩; have n0_ := Aside0.mk (Kd.R_below (by (with_reducible repeat (first | apply Kd.R_alloc | apply Kd.R_drewN | apply Kd.R_drew)); exact (Kd.R_mono (Kd.R_far (p := ⟨gb137, 7, none⟩) (Kd.R_types HO178.out BK137.out (by decide)) (fun _ hk => hk.2) (.string (a1_7 ++ (strOfNums y176)))) (fun _ h_ => h_.1))) hb); have n1_ := Aside0.mk (blk_below (g := gb136) (o := .cells #[.string a0_0, .int .i64 a0_1, .bool a0_2] 23 (0, 0)) (by (with_reducible repeat (first | refine blk_drewN ?_ _ | refine blk_drew ?_ | refine blk_alloc ?_ _)); refine blk_far ?_ NB136_137.out _; (with_reducible repeat (first | refine blk_drewN ?_ _ | refine blk_drew ?_ | refine blk_alloc ?_ _)); exact BK136.out) hb); have n2_ := Aside0.mk (blk_below (g := gb137) (o := .cells #[.int .i64 a1_0, .int .i64 a2_1, .int .i64 a1_2, .int .i64 a1_3, .int .i64 a1_4, .int .i64 a1_5, .int .i64 a2_2, .string (a1_7 ++ (strOfNums y176))] 27 (0, 0)) (by (with_reducible repeat (first | refine blk_drewN ?_ _ | refine blk_drew ?_ | refine blk_alloc ?_ _)); refine blk_put (cs := #[.int .i64 a1_0, .int .i64 a2_1, .int .i64 a1_2, .int .i64 a1_3, .int .i64 a1_4, .int .i64 a1_5, .int .i64 a2_2, .string a1_7]) ?_ 7 _ rfl; (with_reducible repeat (first | refine blk_drewN ?_ _ | refine blk_drew ?_ | refine blk_alloc ?_ _)); exact BK137.out) hb); have n3_ := Aside0.mk (blk_below (g := gb138) (o := .cells #[.int .i64 a2_0, .int .i64 a2_1, .int .i64 a2_2, .int .i64 a2_3, .int .i64 a2_4, .string a2_5, .int .i64 a2_6] 32 (0, 0)) (by (with_reducible repeat (first | refine blk_drewN ?_ _ | refine blk_drew ?_ | refine blk_alloc ?_ _)); refine blk_far ?_ NB138_137.out _; (with_reducible repeat (first | refine blk_drewN ?_ _ | refine blk_drew ?_ | refine blk_alloc ?_ _)); exact BK138.out) hb); have n4_ := Aside0.mk (blk_below (g := gb139) (o := .cells #[.int .i64 x140000_36, .int .i64 x140001_36, .int .i64 x140002_36, .int .i64 x140003_36, .int .i64 x140004_36, .int .i64 x140005_36, .int .i64 x140006_36, .string x140007_36] 27 (0, 0)) (by (with_reducible repeat (first | refine blk_drewN ?_ _ | refine blk_drew ?_ | refine blk_alloc ?_ _)); refine blk_far ?_ NB139_137.out _; (with_reducible repeat (first | refine blk_drewN ?_ _ | refine blk_drew ?_ | refine blk_alloc ?_ _)); exact BK139.out) hb); have n5_ := Aside0.mk (blk_below (g := gb142) (o := .cells #[.int .i64 a1_0, .int .i64 a1_1, .int .i64 a1_2, .int .i64 a1_3, .int .i64 a1_4, .int .i64 a1_5, .int .i64 a1_6, .string a1_7] 27 (0, 0)) (by (with_reducible repeat (first | refine blk_drewN ?_ _ | refine blk_drew ?_ | refine blk_alloc ?_ _)); refine blk_far ?_ NB142_137.out _; (with_reducible repeat (first | refine blk_drewN ?_ _ | refine blk_drew ?_ | refine blk_alloc ?_ _)); exact BK142.out) hb); have n6_ := Aside0.mk (below_step (hbw HB.out) hb); clear HO178; clear BK136; clear BK137; clear BK138; clear BK139; clear BK142; clear HB; have HO178 := n0_; have BK136 := n1_; have BK137 := n2_; have BK138 := n3_; have BK139 := n4_; have BK142 := n5_; have HB := n6_; clear n0_ n1_ n2_ n3_ n4_ n5_ n6_; (try clear hb); (try clear hb2); (try clear hk); (try clear hi)))
          have n0_ := Aside0.mk (Kd.R_drew HO178.out)
          have n1_ := Aside0.mk (blk_drew BK136.out)
          have n2_ := Aside0.mk (blk_drew BK137.out)
          have n3_ := Aside0.mk (blk_drew BK138.out)
          have n4_ := Aside0.mk (blk_drew BK139.out)
          have n5_ := Aside0.mk (blk_drew BK142.out)
          have n6_ := Aside0.mk (below_drew1 HB.out)
          clear HO178
          clear BK136
          clear BK137
          clear BK138
          clear BK139
          clear BK142
          clear HB
          have HO178 := n0_
          have BK136 := n1_
          have BK137 := n2_
          have BK138 := n3_
          have BK139 := n4_
          have BK142 := n5_
          have HB := n6_
          clear n0_ n1_ n2_ n3_ n4_ n5_ n6_
          refine start_ (n := 11) (S := fun w' => True) (ds := []) #[false, false, false, false, false, false, false, false, false, false, false] (by kernel_rfl) rfl rfl trivial (fun hHeld => ?_); refine with_tabW sync_Step.tab18 sync_Step.bits18 (fun HT_ HW_ => ?_)
          generalize w109.drew = w110 at HO178 BK136 BK137 BK138 BK139 BK142 HB hHeld ⊢
          refine pstep 2 (some 93) #[false, false, true, false, false, false, false, false, false, false, false] HT_.out ?_
          refine pstep 4 (some 95) #[false, false, true, false, true, false, false, false, false, false, false] HT_.out ?_
          refine pstep 6 (some 97) #[false, false, true, false, true, false, true, false, false, false, false] HT_.out ?_
          refine inv_at [0, 1, 3, 5, 7, 8, 9, 10] (fun a0_ b a w' => ∃ (v190 : Value) (m10_ : Value), a = putSel a0_ b [(0, 91, .agg #[.int .i64 a1_0, .int .i64 a2_1, .int .i64 a1_2, .int .i64 a1_3, .int .i64 a1_4, .int .i64 a1_5, .int .i64 a2_2, .string (a1_7 ++ (strOfNums y176))]), (1, 92, .agg #[.int .i64 t181, .int .i64 t182, .int .i64 t183, .int .i64 t184, .int .i64 t185, .int .i64 t186, .int .i64 t187, .string t188]), (3, 94, .int .i64 a1_2), (5, 96, .int .i64 a2_2), (7, 98, .agg #[.int .i64 5, .int .i64 a1_2, .int .i64 a2_2, .int .i64 0, .int .i64 0, .string t179, .int .i64 0]), (8, 99, v190), (10, 7, m10_)] ∧ (Kd.R (Kd.int .u8) 5 w' w.heap.size (fun _ => True) v177 y176) ∧ (w'.heap[gb136]? = some (.cells #[.string a0_0, .int .i64 a0_1, .bool a0_2] 23 (0, 0))) ∧ (w'.heap[gb137]? = some (.cells #[.int .i64 a1_0, .int .i64 a2_1, .int .i64 a1_2, .int .i64 a1_3, .int .i64 a1_4, .int .i64 a1_5, .int .i64 a2_2, .string (a1_7 ++ (strOfNums y176))] 27 (0, 0))) ∧ (w'.heap[gb138]? = some (.cells #[.int .i64 a2_0, .int .i64 a2_1, .int .i64 a2_2, .int .i64 a2_3, .int .i64 a2_4, .string a2_5, .int .i64 a2_6] 32 (0, 0))) ∧ (b 9 = false → w'.heap[gb139]? = some (.cells #[.int .i64 x140000_36, .int .i64 x140001_36, .int .i64 x140002_36, .int .i64 x140003_36, .int .i64 x140004_36, .int .i64 x140005_36, .int .i64 x140006_36, .string x140007_36] 27 (0, 0))) ∧ (w'.heap[gb142]? = some (.cells #[.int .i64 a1_0, .int .i64 a1_1, .int .i64 a1_2, .int .i64 a1_3, .int .i64 a1_4, .int .i64 a1_5, .int .i64 a1_6, .string a1_7] 27 (0, 0))) ∧ (Below w.heap.size w w') ∧ (b 8 = true → Kd.R k32 32 w' w.heap.size (fun k_ => k_ ≠ gb138) v190 y189) ∧ (b 9 = true → w'.heap[gb139]? = some (.cells #[.int .i64 t181, .int .i64 t182, .int .i64 t183, .int .i64 t184, .int .i64 t185, .int .i64 t186, .int .i64 t187, .string t188] 27 (0, 0))) ∧ (b 10 = true → (m10_ : Value) = v190)) HT_.out HW_.out (by kernel_rfl) (by kernel_rfl) ?_ ?_ ?_
          ·exact ⟨.bool false, .bool false, by simp only [putSel, Bool.false_eq_true, if_false], HO178.out, BK136.out, BK137.out, BK138.out, fun _ => BK139.out, BK142.out, HB.out, fun h_ => absurd h_ (by decide), fun h_ => absurd h_ (by decide), fun h_ => absurd h_ (by decide)⟩
          ·skip
           clear BK136 BK137 BK138 BK139 BK142 HB HO178
           refine steps_cons ?_ ?_
           ·rintro b a w' ⟨v190, m10_, ha, Q_HO178, Q_BK136, Q_BK137, Q_BK138, Q_BK139, Q_BK142, Q_HB, Q_HO191, Q_BK139_e9, Q_X10_⟩ hb_ hon hoff
            refine ⟨_, rfl, fun K hK => ?_⟩
            have e4 : a.tmps[4]? = some (.pointer (some ⟨gb137, 0, none⟩)) := by rw [ha]; exact (putSel_off rfl).trans rfl
            replace ha := Aside0.mk ha
            have HO178 := Aside0.mk Q_HO178
            have BK136 := Aside0.mk Q_BK136
            have BK137 := Aside0.mk Q_BK137
            have BK138 := Aside0.mk Q_BK138
            have BK139 := Aside0.mk (Q_BK139 (hoff 9 (by kernel_rfl)))
            have BK142 := Aside0.mk Q_BK142
            have HB := Aside0.mk Q_HB
            have hc0_ : w'.cell? ⟨gb137, 0, none⟩ = some (.int .i64 a1_0) := (blk_cell BK137.out 0).trans rfl
            have hc1_ : w'.cell? ⟨gb137, 1, none⟩ = some (.int .i64 a2_1) := (blk_cell BK137.out 1).trans rfl
            have hc2_ : w'.cell? ⟨gb137, 2, none⟩ = some (.int .i64 a1_2) := (blk_cell BK137.out 2).trans rfl
            have hc3_ : w'.cell? ⟨gb137, 3, none⟩ = some (.int .i64 a1_3) := (blk_cell BK137.out 3).trans rfl
            have hc4_ : w'.cell? ⟨gb137, 4, none⟩ = some (.int .i64 a1_4) := (blk_cell BK137.out 4).trans rfl
            have hc5_ : w'.cell? ⟨gb137, 5, none⟩ = some (.int .i64 a1_5) := (blk_cell BK137.out 5).trans rfl
            have hc6_ : w'.cell? ⟨gb137, 6, none⟩ = some (.int .i64 a2_2) := (blk_cell BK137.out 6).trans rfl
            have hc7_ : w'.cell? ⟨gb137, 7, none⟩ = some (.string (a1_7 ++ (strOfNums y176))) := (blk_cell BK137.out 7).trans rfl
            refine value_ (w1 := w') (v := .agg #[.int .i64 a1_0, .int .i64 a2_1, .int .i64 a1_2, .int .i64 a1_3, .int .i64 a1_4, .int .i64 a1_5, .int .i64 a2_2, .string (a1_7 ++ (strOfNums y176))]) (by rfl) rfl ?_ ?_
            ·go_simp
             (try simp only [i64_w, u8_w, u32_w, w64_m8, w64_m32])
             try rfl
            refine hK.out _ _ ⟨v190, m10_, (by rw [ha.out]; exact putSel_upk 0 hb_ rfl rfl rfl), Q_HO178, Q_BK136, Q_BK137, Q_BK138, Q_BK139, Q_BK142, Q_HB, Q_HO191, fun h0_ => absurd ((hoff 9 (by kernel_rfl)).symm.trans h0_) (by decide), fun h0_ => absurd ((hoff 10 (by kernel_rfl)).symm.trans h0_) (by decide)⟩
           refine steps_cons ?_ ?_
           ·rintro b a w' ⟨v190, m10_, ha, Q_HO178, Q_BK136, Q_BK137, Q_BK138, Q_BK139, Q_BK142, Q_HB, Q_HO191, Q_BK139_e9, Q_X10_⟩ hb_ hon hoff
            refine ⟨_, rfl, fun K hK => ?_⟩
            have e91 : a.tmps[91]? = some (.agg #[.int .i64 a1_0, .int .i64 a2_1, .int .i64 a1_2, .int .i64 a1_3, .int .i64 a1_4, .int .i64 a1_5, .int .i64 a2_2, .string (a1_7 ++ (strOfNums y176))]) := by rw [ha]; exact putSel_on (e := (0, 91, .agg #[.int .i64 a1_0, .int .i64 a2_1, .int .i64 a1_2, .int .i64 a1_3, .int .i64 a1_4, .int .i64 a1_5, .int .i64 a2_2, .string (a1_7 ++ (strOfNums y176))])) 0 rfl rfl (hon 0 (by kernel_rfl)) rfl
            replace ha := Aside0.mk ha
            have HO178 := Aside0.mk Q_HO178
            have BK136 := Aside0.mk Q_BK136
            have BK137 := Aside0.mk Q_BK137
            have BK138 := Aside0.mk Q_BK138
            have BK139 := Aside0.mk (Q_BK139 (hoff 9 (by kernel_rfl)))
            have BK142 := Aside0.mk Q_BK142
            have HB := Aside0.mk Q_HB
            refine goes_ Try.func27 (by kernel_rfl) rfl #[.agg #[.int .i64 a1_0, .int .i64 a2_1, .int .i64 a1_2, .int .i64 a1_3, .int .i64 a1_4, .int .i64 a1_5, .int .i64 a2_2, .string (a1_7 ++ (strOfNums y176))]] (by rfl) rfl rfl (by first | (simp only [List.map_toArray, List.map_cons, List.map_nil, Act.eval, Array.getD_eq_getD_getElem?, Option.getD_some, e91]; done) | (simp only [List.map_toArray, List.map_cons, List.map_nil, Act.eval, Array.getD_eq_getD_getElem?, Option.getD_some, e91]; rfl)) ?_
            with_reducible refine (sync_search.calls a1_0 a2_1 a1_2 a1_3 a1_4 a1_5 a2_2 (a1_7 ++ (strOfNums y176)) t181 t182 t183 t184 t185 t186 t187 t188 _ A92.out).mono ?_
            rintro e w111 ⟨rfl, hb⟩
            refine ⟨_, rfl, ?_⟩
            have n0_ := Aside0.mk (Kd.R_below (rkw HO178.out) hb)
            have n1_ := Aside0.mk (blkb BK136.out hb)
            have n2_ := Aside0.mk (blkb BK137.out hb)
            have n3_ := Aside0.mk (blkb BK138.out hb)
            have n4_ := Aside0.mk (blkb BK139.out hb)
            have n5_ := Aside0.mk (blkb BK142.out hb)
            have n6_ := Aside0.mk (below_step (hbw HB.out) hb)
            have z_HO191 := fun (h0_ : b 8 = true) => (show Kd.R k32 32 w111 w.heap.size (fun k_ => k_ ≠ gb138) v190 y189 from by first | exact (Kd.R_below (by (with_reducible repeat (first | apply Kd.R_alloc | apply Kd.R_drewN | apply Kd.R_drew)); exact (Q_HO191 h0_)) hb) | exact Kd.R_mono (Kd.R_below (by (with_reducible repeat (first | apply Kd.R_alloc | apply Kd.R_drewN | apply Kd.R_drew)); exact (Q_HO191 h0_)) hb) (fun _ h_ => by first | trivial | exact h_ | exact h_.1))
            clear HO178
            clear BK136
            clear BK137
            clear BK138
            clear BK139
            clear BK142
            clear HB
            have HO178 := n0_
            have BK136 := n1_
            have BK137 := n2_
            have BK138 := n3_
            have BK139 := n4_
            have BK142 := n5_
            have HB := n6_
            clear n0_ n1_ n2_ n3_ n4_ n5_ n6_
            (try clear hb)
            (try clear hb2)
            (try clear hk)
            (try clear hi)
            refine hK.out _ _ ⟨v190, m10_, (by rw [ha.out]; exact putSel_upk 1 hb_ rfl rfl rfl), (rkw HO178.out), (bkw BK136.out), (bkw BK137.out), (bkw BK138.out), fun _ => (bkw BK139.out), (bkw BK142.out), (hbw HB.out), z_HO191, fun h0_ => absurd ((hoff 9 (by kernel_rfl)).symm.trans h0_) (by decide), fun h0_ => absurd ((hoff 10 (by kernel_rfl)).symm.trans h0_) (by decide)⟩
           refine steps_cons ?_ ?_
           ·rintro b a w' ⟨v190, m10_, ha, Q_HO178, Q_BK136, Q_BK137, Q_BK138, Q_BK139, Q_BK142, Q_HB, Q_HO191, Q_BK139_e9, Q_X10_⟩ hb_ hon hoff
            refine ⟨_, rfl, fun K hK => ?_⟩
            have e93 : a.tmps[93]? = some (.pointer (some ⟨gb137, 2, none⟩)) := by rw [ha]; exact (putSel_off rfl).trans rfl
            replace ha := Aside0.mk ha
            have HO178 := Aside0.mk Q_HO178
            have BK136 := Aside0.mk Q_BK136
            have BK137 := Aside0.mk Q_BK137
            have BK138 := Aside0.mk Q_BK138
            have BK142 := Aside0.mk Q_BK142
            have HB := Aside0.mk Q_HB
            have hc0_ : w'.cell? ⟨gb137, 0, none⟩ = some (.int .i64 a1_0) := (blk_cell BK137.out 0).trans rfl
            have hc1_ : w'.cell? ⟨gb137, 1, none⟩ = some (.int .i64 a2_1) := (blk_cell BK137.out 1).trans rfl
            have hc2_ : w'.cell? ⟨gb137, 2, none⟩ = some (.int .i64 a1_2) := (blk_cell BK137.out 2).trans rfl
            have hc3_ : w'.cell? ⟨gb137, 3, none⟩ = some (.int .i64 a1_3) := (blk_cell BK137.out 3).trans rfl
            have hc4_ : w'.cell? ⟨gb137, 4, none⟩ = some (.int .i64 a1_4) := (blk_cell BK137.out 4).trans rfl
            have hc5_ : w'.cell? ⟨gb137, 5, none⟩ = some (.int .i64 a1_5) := (blk_cell BK137.out 5).trans rfl
            have hc6_ : w'.cell? ⟨gb137, 6, none⟩ = some (.int .i64 a2_2) := (blk_cell BK137.out 6).trans rfl
            have hc7_ : w'.cell? ⟨gb137, 7, none⟩ = some (.string (a1_7 ++ (strOfNums y176))) := (blk_cell BK137.out 7).trans rfl
            refine value_ (w1 := w') (v := .int .i64 a1_2) (by rfl) rfl ?_ ?_
            ·go_simp
             (try simp only [i64_w, u8_w, u32_w, w64_m8, w64_m32])
             try rfl
            refine hK.out _ _ ⟨v190, m10_, (by rw [ha.out]; exact putSel_upk 2 hb_ rfl rfl rfl), Q_HO178, Q_BK136, Q_BK137, Q_BK138, Q_BK139, Q_BK142, Q_HB, fun h0_ => absurd ((hoff 8 (by kernel_rfl)).symm.trans h0_) (by decide), Q_BK139_e9, fun h0_ => absurd ((hoff 10 (by kernel_rfl)).symm.trans h0_) (by decide)⟩
           refine steps_cons ?_ ?_
           ·rintro b a w' ⟨v190, m10_, ha, Q_HO178, Q_BK136, Q_BK137, Q_BK138, Q_BK139, Q_BK142, Q_HB, Q_HO191, Q_BK139_e9, Q_X10_⟩ hb_ hon hoff
            refine ⟨_, rfl, fun K hK => ?_⟩
            have e95 : a.tmps[95]? = some (.pointer (some ⟨gb138, 2, none⟩)) := by rw [ha]; exact (putSel_off rfl).trans rfl
            replace ha := Aside0.mk ha
            have HO178 := Aside0.mk Q_HO178
            have BK136 := Aside0.mk Q_BK136
            have BK137 := Aside0.mk Q_BK137
            have BK138 := Aside0.mk Q_BK138
            have BK142 := Aside0.mk Q_BK142
            have HB := Aside0.mk Q_HB
            have hc0_ : w'.cell? ⟨gb138, 0, none⟩ = some (.int .i64 a2_0) := (blk_cell BK138.out 0).trans rfl
            have hc1_ : w'.cell? ⟨gb138, 1, none⟩ = some (.int .i64 a2_1) := (blk_cell BK138.out 1).trans rfl
            have hc2_ : w'.cell? ⟨gb138, 2, none⟩ = some (.int .i64 a2_2) := (blk_cell BK138.out 2).trans rfl
            have hc3_ : w'.cell? ⟨gb138, 3, none⟩ = some (.int .i64 a2_3) := (blk_cell BK138.out 3).trans rfl
            have hc4_ : w'.cell? ⟨gb138, 4, none⟩ = some (.int .i64 a2_4) := (blk_cell BK138.out 4).trans rfl
            have hc5_ : w'.cell? ⟨gb138, 5, none⟩ = some (.string a2_5) := (blk_cell BK138.out 5).trans rfl
            have hc6_ : w'.cell? ⟨gb138, 6, none⟩ = some (.int .i64 a2_6) := (blk_cell BK138.out 6).trans rfl
            refine value_ (w1 := w') (v := .int .i64 a2_2) (by rfl) rfl ?_ ?_
            ·go_simp
             (try simp only [i64_w, u8_w, u32_w, w64_m8, w64_m32])
             try rfl
            refine hK.out _ _ ⟨v190, m10_, (by rw [ha.out]; exact putSel_upk 3 hb_ rfl rfl rfl), Q_HO178, Q_BK136, Q_BK137, Q_BK138, Q_BK139, Q_BK142, Q_HB, fun h0_ => absurd ((hoff 8 (by kernel_rfl)).symm.trans h0_) (by decide), Q_BK139_e9, fun h0_ => absurd ((hoff 10 (by kernel_rfl)).symm.trans h0_) (by decide)⟩
           refine steps_cons ?_ ?_
           ·rintro b a w' ⟨v190, m10_, ha, Q_HO178, Q_BK136, Q_BK137, Q_BK138, Q_BK139, Q_BK142, Q_HB, Q_HO191, Q_BK139_e9, Q_X10_⟩ hb_ hon hoff
            refine ⟨_, rfl, fun K hK => ?_⟩
            have e94 : a.tmps[94]? = some (.int .i64 a1_2) := by rw [ha]; exact putSel_on (e := (3, 94, .int .i64 a1_2)) 2 rfl rfl (hon 3 (by kernel_rfl)) rfl
            have e96 : a.tmps[96]? = some (.int .i64 a2_2) := by rw [ha]; exact putSel_on (e := (5, 96, .int .i64 a2_2)) 3 rfl rfl (hon 5 (by kernel_rfl)) rfl
            have e97 : a.tmps[97]? = some (.string t179) := by rw [ha]; exact (putSel_off rfl).trans rfl
            replace ha := Aside0.mk ha
            have HO178 := Aside0.mk Q_HO178
            have BK136 := Aside0.mk Q_BK136
            have BK137 := Aside0.mk Q_BK137
            have BK138 := Aside0.mk Q_BK138
            have BK142 := Aside0.mk Q_BK142
            have HB := Aside0.mk Q_HB
            refine value_ (w1 := w') (v := .agg #[.int .i64 5, .int .i64 a1_2, .int .i64 a2_2, .int .i64 0, .int .i64 0, .string t179, .int .i64 0]) (by rfl) rfl ?_ ?_
            ·go_simp
             (try simp only [i64_w, u8_w, u32_w, w64_m8, w64_m32])
             try rfl
            refine hK.out _ _ ⟨v190, m10_, (by rw [ha.out]; exact putSel_upk 4 hb_ rfl rfl rfl), Q_HO178, Q_BK136, Q_BK137, Q_BK138, Q_BK139, Q_BK142, Q_HB, fun h0_ => absurd ((hoff 8 (by kernel_rfl)).symm.trans h0_) (by decide), Q_BK139_e9, fun h0_ => absurd ((hoff 10 (by kernel_rfl)).symm.trans h0_) (by decide)⟩
           refine steps_cons ?_ ?_
           ·rintro b a w' ⟨v190, m10_, ha, Q_HO178, Q_BK136, Q_BK137, Q_BK138, Q_BK139, Q_BK142, Q_HB, Q_HO191, Q_BK139_e9, Q_X10_⟩ hb_ hon hoff
            refine ⟨_, rfl, fun K hK => ?_⟩
            have e98 : a.tmps[98]? = some (.agg #[.int .i64 5, .int .i64 a1_2, .int .i64 a2_2, .int .i64 0, .int .i64 0, .string t179, .int .i64 0]) := by rw [ha]; exact putSel_on (e := (7, 98, .agg #[.int .i64 5, .int .i64 a1_2, .int .i64 a2_2, .int .i64 0, .int .i64 0, .string t179, .int .i64 0])) 4 rfl rfl (hon 7 (by kernel_rfl)) rfl
            replace ha := Aside0.mk ha
            have HO178 := Aside0.mk Q_HO178
            have BK136 := Aside0.mk Q_BK136
            have BK137 := Aside0.mk Q_BK137
            have BK138 := Aside0.mk Q_BK138
            have BK142 := Aside0.mk Q_BK142
            have HB := Aside0.mk Q_HB
            refine Kd.R_lit_step k32 _ 32 ?hg (N := 99) ?hd (xs := ([(⟨5, a1_2, a2_2, 0, 0, t179, 0⟩ : S32)] : List (S32))) (inner := [.int .i64 5, .int .i64 a1_2, .int .i64 a2_2, .int .i64 0, .int .i64 0, .string t179, .int .i64 0]) (ok := fun _ => True) (okp := fun _ => True) ?hr ?hp (fun _ hk => hk) trivial (Below.refl _ _) (Nat.le_refl _) (by simp) ?_; (case hd => rfl); (case hg => rfl); (case hr => first | (go_simp; done) | (go_simp; rfl)); (case hp => exact (Reps.c7 (show Kd.M k32 _ _ _ (⟨5, a1_2, a2_2, 0, 0, t179, 0⟩ : S32) [.int .i64 5, .int .i64 a1_2, .int .i64 a2_2, .int .i64 0, .int .i64 0, .string t179, .int .i64 0] from (k32_mkM _ _ _ (⟨5, a1_2, a2_2, 0, 0, t179, 0⟩ : S32) )) (Reps.none _ _)))
            intro v190 w111 ho112 hb hg_ hnew_
            clear hg_ hnew_
            (first | rw [← Ny189.out] at ho112 | (simp only [Int.reduceToNat] at ho112; rw [← Ny189.out] at ho112))
            have n0_ := Aside0.mk (Kd.R_below (rkw HO178.out) hb)
            have n1_ := Aside0.mk (Kd.R_lower (Kd.R_newB ho112 (g := gb138) (o := .cells #[.int .i64 a2_0, .int .i64 a2_1, .int .i64 a2_2, .int .i64 a2_3, .int .i64 a2_4, .string a2_5, .int .i64 a2_6] 32 (0, 0)) (bkw BK138.out)) (below_size (hbw HB.out)))
            have n2_ := Aside0.mk (blkb BK136.out hb)
            have n3_ := Aside0.mk (blkb BK137.out hb)
            have n4_ := Aside0.mk (blkb BK138.out hb)
            have n6_ := Aside0.mk (blkb BK142.out hb)
            have n7_ := Aside0.mk (below_step (hbw HB.out) hb)
            have z_BK139 := fun (h0_ : b 9 = false) => (show w111.heap[gb139]? = some (.cells #[.int .i64 x140000_36, .int .i64 x140001_36, .int .i64 x140002_36, .int .i64 x140003_36, .int .i64 x140004_36, .int .i64 x140005_36, .int .i64 x140006_36, .string x140007_36] 27 (0, 0)) from by first | exact (blk_below (g := gb139) (o := .cells #[.int .i64 x140000_36, .int .i64 x140001_36, .int .i64 x140002_36, .int .i64 x140003_36, .int .i64 x140004_36, .int .i64 x140005_36, .int .i64 x140006_36, .string x140007_36] 27 (0, 0)) (by (with_reducible repeat (first | refine blk_drewN ?_ _ | refine blk_drew ?_ | refine blk_alloc ?_ _)); exact (Q_BK139 h0_)) hb))
            have z_BK139_e9 := fun (h0_ : b 9 = true) => (show w111.heap[gb139]? = some (.cells #[.int .i64 t181, .int .i64 t182, .int .i64 t183, .int .i64 t184, .int .i64 t185, .int .i64 t186, .int .i64 t187, .string t188] 27 (0, 0)) from by first | exact (blk_below (g := gb139) (o := .cells #[.int .i64 t181, .int .i64 t182, .int .i64 t183, .int .i64 t184, .int .i64 t185, .int .i64 t186, .int .i64 t187, .string t188] 27 (0, 0)) (by (with_reducible repeat (first | refine blk_drewN ?_ _ | refine blk_drew ?_ | refine blk_alloc ?_ _)); exact (Q_BK139_e9 h0_)) hb))
            clear HO178
            clear BK136
            clear BK137
            clear BK138
            clear BK142
            clear HB
            have HO178 := n0_
            have HO191 := n1_
            have BK136 := n2_
            have BK137 := n3_
            have BK138 := n4_
            have BK142 := n6_
            have HB := n7_
            clear n0_ n1_ n2_ n3_ n4_ n6_ n7_
            clear hb ho112
            refine hK.out _ _ ⟨v190, m10_, (by rw [ha.out]; exact putSel_upk 5 hb_ rfl rfl rfl), (rkw HO178.out), (bkw BK136.out), (bkw BK137.out), (bkw BK138.out), z_BK139, (bkw BK142.out), (hbw HB.out), fun _ => (by (with_reducible repeat (first | apply Kd.R_alloc | apply Kd.R_drewN | apply Kd.R_drew)); exact Kd.R_mono HO191.out (fun _ hk => hk.2)), z_BK139_e9, fun h0_ => absurd ((hoff 10 (by kernel_rfl)).symm.trans h0_) (by decide)⟩
           refine steps_cons ?_ ?_
           ·rintro b a w' ⟨v190, m10_, ha, Q_HO178, Q_BK136, Q_BK137, Q_BK138, Q_BK139, Q_BK142, Q_HB, Q_HO191, Q_BK139_e9, Q_X10_⟩ hb_ hon hoff
            refine ⟨_, rfl, fun K hK => ?_⟩
            have e6 : a.tmps[6]? = some (.pointer (some ⟨gb139, 0, none⟩)) := by rw [ha]; exact (putSel_off rfl).trans rfl
            have e92 : a.tmps[92]? = some (.agg #[.int .i64 t181, .int .i64 t182, .int .i64 t183, .int .i64 t184, .int .i64 t185, .int .i64 t186, .int .i64 t187, .string t188]) := by rw [ha]; exact putSel_on (e := (1, 92, .agg #[.int .i64 t181, .int .i64 t182, .int .i64 t183, .int .i64 t184, .int .i64 t185, .int .i64 t186, .int .i64 t187, .string t188])) 1 rfl rfl (hon 1 (by kernel_rfl)) rfl
            replace ha := Aside0.mk ha
            have HO178 := Aside0.mk Q_HO178
            have BK136 := Aside0.mk Q_BK136
            have BK137 := Aside0.mk Q_BK137
            have BK138 := Aside0.mk Q_BK138
            have BK139 := Aside0.mk (Q_BK139 hb_)
            have BK142 := Aside0.mk Q_BK142
            have HB := Aside0.mk Q_HB
            have hs113 : w'.cell? ⟨gb139, 0, none⟩ = some (.int .i64 x140000_36) := (blk_cell BK139.out 0).trans rfl
            have hfs113 := blk_frozen BK139.out 0
            have hns113_0 := NB136_139.out
            have hns113_1 := NB137_139.out
            have hns113_2 := NB138_139.out
            have hns113_4 := NB142_139.out
            have hms113_0 := NB139_136.out
            have hms113_1 := NB139_137.out
            have hms113_2 := NB139_138.out
            have hms113_4 := NB139_142.out
            have hs114 : w'.cell? ⟨gb139, 1, none⟩ = some (.int .i64 x140001_36) := (blk_cell BK139.out 1).trans rfl
            have hfs114 := blk_frozen BK139.out 1
            have hns114_0 := NB136_139.out
            have hns114_1 := NB137_139.out
            have hns114_2 := NB138_139.out
            have hns114_4 := NB142_139.out
            have hms114_0 := NB139_136.out
            have hms114_1 := NB139_137.out
            have hms114_2 := NB139_138.out
            have hms114_4 := NB139_142.out
            have hs115 : w'.cell? ⟨gb139, 2, none⟩ = some (.int .i64 x140002_36) := (blk_cell BK139.out 2).trans rfl
            have hfs115 := blk_frozen BK139.out 2
            have hns115_0 := NB136_139.out
            have hns115_1 := NB137_139.out
            have hns115_2 := NB138_139.out
            have hns115_4 := NB142_139.out
            have hms115_0 := NB139_136.out
            have hms115_1 := NB139_137.out
            have hms115_2 := NB139_138.out
            have hms115_4 := NB139_142.out
            have hs116 : w'.cell? ⟨gb139, 3, none⟩ = some (.int .i64 x140003_36) := (blk_cell BK139.out 3).trans rfl
            have hfs116 := blk_frozen BK139.out 3
            have hns116_0 := NB136_139.out
            have hns116_1 := NB137_139.out
            have hns116_2 := NB138_139.out
            have hns116_4 := NB142_139.out
            have hms116_0 := NB139_136.out
            have hms116_1 := NB139_137.out
            have hms116_2 := NB139_138.out
            have hms116_4 := NB139_142.out
            have hs117 : w'.cell? ⟨gb139, 4, none⟩ = some (.int .i64 x140004_36) := (blk_cell BK139.out 4).trans rfl
            have hfs117 := blk_frozen BK139.out 4
            have hns117_0 := NB136_139.out
            have hns117_1 := NB137_139.out
            have hns117_2 := NB138_139.out
            have hns117_4 := NB142_139.out
            have hms117_0 := NB139_136.out
            have hms117_1 := NB139_137.out
            have hms117_2 := NB139_138.out
            have hms117_4 := NB139_142.out
            have hs118 : w'.cell? ⟨gb139, 5, none⟩ = some (.int .i64 x140005_36) := (blk_cell BK139.out 5).trans rfl
            have hfs118 := blk_frozen BK139.out 5
            have hns118_0 := NB136_139.out
            have hns118_1 := NB137_139.out
            have hns118_2 := NB138_139.out
            have hns118_4 := NB142_139.out
            have hms118_0 := NB139_136.out
            have hms118_1 := NB139_137.out
            have hms118_2 := NB139_138.out
            have hms118_4 := NB139_142.out
            have hs119 : w'.cell? ⟨gb139, 6, none⟩ = some (.int .i64 x140006_36) := (blk_cell BK139.out 6).trans rfl
            have hfs119 := blk_frozen BK139.out 6
            have hns119_0 := NB136_139.out
            have hns119_1 := NB137_139.out
            have hns119_2 := NB138_139.out
            have hns119_4 := NB142_139.out
            have hms119_0 := NB139_136.out
            have hms119_1 := NB139_137.out
            have hms119_2 := NB139_138.out
            have hms119_4 := NB139_142.out
            have hs120 : w'.cell? ⟨gb139, 7, none⟩ = some (.string x140007_36) := (blk_cell BK139.out 7).trans rfl
            have hfs120 := blk_frozen BK139.out 7
            have hns120_0 := NB136_139.out
            have hns120_1 := NB137_139.out
            have hns120_2 := NB138_139.out
            have hns120_4 := NB142_139.out
            have hms120_0 := NB139_136.out
            have hms120_1 := NB139_137.out
            have hms120_2 := NB139_138.out
            have hms120_4 := NB139_142.out
            refine skip_ (w1 := ?_) (by rfl) rfl ?_ ?_
            rotate_left
            ·go_simp
             rfl
            refine hK.out _ _ ⟨v190, m10_, (by rw [ha.out]; exact putSel_none (v := undef) rfl), (by (with_reducible repeat (first | apply Kd.R_alloc | apply Kd.R_drewN | apply Kd.R_drew)); exact Kd.R_mono (Kd.R_far (p := ⟨gb139, 7, none⟩) (Kd.R_far (p := ⟨gb139, 6, none⟩) (Kd.R_far (p := ⟨gb139, 5, none⟩) (Kd.R_far (p := ⟨gb139, 4, none⟩) (Kd.R_far (p := ⟨gb139, 3, none⟩) (Kd.R_far (p := ⟨gb139, 2, none⟩) (Kd.R_far (p := ⟨gb139, 1, none⟩) (Kd.R_far (p := ⟨gb139, 0, none⟩) (Kd.R_types HO178.out BK139.out (by decide)) (fun _ hk => hk.2) (.int .i64 t181)) (fun _ hk => hk.2) (.int .i64 t182)) (fun _ hk => hk.2) (.int .i64 t183)) (fun _ hk => hk.2) (.int .i64 t184)) (fun _ hk => hk.2) (.int .i64 t185)) (fun _ hk => hk.2) (.int .i64 t186)) (fun _ hk => hk.2) (.int .i64 t187)) (fun _ hk => hk.2) (.string t188)) (fun _ hk => trivial)), (by (with_reducible repeat (first | refine blk_drewN ?_ _ | refine blk_drew ?_ | refine blk_alloc ?_ _)); refine blk_far ?_ NB136_139.out _; (with_reducible repeat (first | refine blk_drewN ?_ _ | refine blk_drew ?_ | refine blk_alloc ?_ _)); refine blk_far ?_ NB136_139.out _; (with_reducible repeat (first | refine blk_drewN ?_ _ | refine blk_drew ?_ | refine blk_alloc ?_ _)); refine blk_far ?_ NB136_139.out _; (with_reducible repeat (first | refine blk_drewN ?_ _ | refine blk_drew ?_ | refine blk_alloc ?_ _)); refine blk_far ?_ NB136_139.out _; (with_reducible repeat (first | refine blk_drewN ?_ _ | refine blk_drew ?_ | refine blk_alloc ?_ _)); refine blk_far ?_ NB136_139.out _; (with_reducible repeat (first | refine blk_drewN ?_ _ | refine blk_drew ?_ | refine blk_alloc ?_ _)); refine blk_far ?_ NB136_139.out _; (with_reducible repeat (first | refine blk_drewN ?_ _ | refine blk_drew ?_ | refine blk_alloc ?_ _)); refine blk_far ?_ NB136_139.out _; (with_reducible repeat (first | refine blk_drewN ?_ _ | refine blk_drew ?_ | refine blk_alloc ?_ _)); refine blk_far ?_ NB136_139.out _; (with_reducible repeat (first | refine blk_drewN ?_ _ | refine blk_drew ?_ | refine blk_alloc ?_ _)); exact BK136.out), (by (with_reducible repeat (first | refine blk_drewN ?_ _ | refine blk_drew ?_ | refine blk_alloc ?_ _)); refine blk_far ?_ NB137_139.out _; (with_reducible repeat (first | refine blk_drewN ?_ _ | refine blk_drew ?_ | refine blk_alloc ?_ _)); refine blk_far ?_ NB137_139.out _; (with_reducible repeat (first | refine blk_drewN ?_ _ | refine blk_drew ?_ | refine blk_alloc ?_ _)); refine blk_far ?_ NB137_139.out _; (with_reducible repeat (first | refine blk_drewN ?_ _ | refine blk_drew ?_ | refine blk_alloc ?_ _)); refine blk_far ?_ NB137_139.out _; (with_reducible repeat (first | refine blk_drewN ?_ _ | refine blk_drew ?_ | refine blk_alloc ?_ _)); refine blk_far ?_ NB137_139.out _; (with_reducible repeat (first | refine blk_drewN ?_ _ | refine blk_drew ?_ | refine blk_alloc ?_ _)); refine blk_far ?_ NB137_139.out _; (with_reducible repeat (first | refine blk_drewN ?_ _ | refine blk_drew ?_ | refine blk_alloc ?_ _)); refine blk_far ?_ NB137_139.out _; (with_reducible repeat (first | refine blk_drewN ?_ _ | refine blk_drew ?_ | refine blk_alloc ?_ _)); refine blk_far ?_ NB137_139.out _; (with_reducible repeat (first | refine blk_drewN ?_ _ | refine blk_drew ?_ | refine blk_alloc ?_ _)); exact BK137.out), (by (with_reducible repeat (first | refine blk_drewN ?_ _ | refine blk_drew ?_ | refine blk_alloc ?_ _)); refine blk_far ?_ NB138_139.out _; (with_reducible repeat (first | refine blk_drewN ?_ _ | refine blk_drew ?_ | refine blk_alloc ?_ _)); refine blk_far ?_ NB138_139.out _; (with_reducible repeat (first | refine blk_drewN ?_ _ | refine blk_drew ?_ | refine blk_alloc ?_ _)); refine blk_far ?_ NB138_139.out _; (with_reducible repeat (first | refine blk_drewN ?_ _ | refine blk_drew ?_ | refine blk_alloc ?_ _)); refine blk_far ?_ NB138_139.out _; (with_reducible repeat (first | refine blk_drewN ?_ _ | refine blk_drew ?_ | refine blk_alloc ?_ _)); refine blk_far ?_ NB138_139.out _; (with_reducible repeat (first | refine blk_drewN ?_ _ | refine blk_drew ?_ | refine blk_alloc ?_ _)); refine blk_far ?_ NB138_139.out _; (with_reducible repeat (first | refine blk_drewN ?_ _ | refine blk_drew ?_ | refine blk_alloc ?_ _)); refine blk_far ?_ NB138_139.out _; (with_reducible repeat (first | refine blk_drewN ?_ _ | refine blk_drew ?_ | refine blk_alloc ?_ _)); refine blk_far ?_ NB138_139.out _; (with_reducible repeat (first | refine blk_drewN ?_ _ | refine blk_drew ?_ | refine blk_alloc ?_ _)); exact BK138.out), fun h0_ => absurd ((up_self b 9).symm.trans h0_) (by decide), (by (with_reducible repeat (first | refine blk_drewN ?_ _ | refine blk_drew ?_ | refine blk_alloc ?_ _)); refine blk_far ?_ NB142_139.out _; (with_reducible repeat (first | refine blk_drewN ?_ _ | refine blk_drew ?_ | refine blk_alloc ?_ _)); refine blk_far ?_ NB142_139.out _; (with_reducible repeat (first | refine blk_drewN ?_ _ | refine blk_drew ?_ | refine blk_alloc ?_ _)); refine blk_far ?_ NB142_139.out _; (with_reducible repeat (first | refine blk_drewN ?_ _ | refine blk_drew ?_ | refine blk_alloc ?_ _)); refine blk_far ?_ NB142_139.out _; (with_reducible repeat (first | refine blk_drewN ?_ _ | refine blk_drew ?_ | refine blk_alloc ?_ _)); refine blk_far ?_ NB142_139.out _; (with_reducible repeat (first | refine blk_drewN ?_ _ | refine blk_drew ?_ | refine blk_alloc ?_ _)); refine blk_far ?_ NB142_139.out _; (with_reducible repeat (first | refine blk_drewN ?_ _ | refine blk_drew ?_ | refine blk_alloc ?_ _)); refine blk_far ?_ NB142_139.out _; (with_reducible repeat (first | refine blk_drewN ?_ _ | refine blk_drew ?_ | refine blk_alloc ?_ _)); refine blk_far ?_ NB142_139.out _; (with_reducible repeat (first | refine blk_drewN ?_ _ | refine blk_drew ?_ | refine blk_alloc ?_ _)); exact BK142.out), (hbw HB.out), fun h0_ => (by (with_reducible repeat (first | apply Kd.R_alloc | apply Kd.R_drewN | apply Kd.R_drew)); exact Kd.R_mono (Kd.R_far (p := ⟨gb139, 7, none⟩) (Kd.R_far (p := ⟨gb139, 6, none⟩) (Kd.R_far (p := ⟨gb139, 5, none⟩) (Kd.R_far (p := ⟨gb139, 4, none⟩) (Kd.R_far (p := ⟨gb139, 3, none⟩) (Kd.R_far (p := ⟨gb139, 2, none⟩) (Kd.R_far (p := ⟨gb139, 1, none⟩) (Kd.R_far (p := ⟨gb139, 0, none⟩) (Kd.R_types (Q_HO191 h0_) BK139.out (by decide)) (fun _ hk => hk.2) (.int .i64 t181)) (fun _ hk => hk.2) (.int .i64 t182)) (fun _ hk => hk.2) (.int .i64 t183)) (fun _ hk => hk.2) (.int .i64 t184)) (fun _ hk => hk.2) (.int .i64 t185)) (fun _ hk => hk.2) (.int .i64 t186)) (fun _ hk => hk.2) (.int .i64 t187)) (fun _ hk => hk.2) (.string t188)) (fun _ hk => hk.1)), fun _ => (by (with_reducible repeat (first | refine blk_drewN ?_ _ | refine blk_drew ?_ | refine blk_alloc ?_ _)); refine blk_put (cs := #[.int .i64 t181, .int .i64 t182, .int .i64 t183, .int .i64 t184, .int .i64 t185, .int .i64 t186, .int .i64 t187, .string x140007_36]) ?_ 7 _ rfl; (with_reducible repeat (first | refine blk_drewN ?_ _ | refine blk_drew ?_ | refine blk_alloc ?_ _)); refine blk_put (cs := #[.int .i64 t181, .int .i64 t182, .int .i64 t183, .int .i64 t184, .int .i64 t185, .int .i64 t186, .int .i64 x140006_36, .string x140007_36]) ?_ 6 _ rfl; (with_reducible repeat (first | refine blk_drewN ?_ _ | refine blk_drew ?_ | refine blk_alloc ?_ _)); refine blk_put (cs := #[.int .i64 t181, .int .i64 t182, .int .i64 t183, .int .i64 t184, .int .i64 t185, .int .i64 x140005_36, .int .i64 x140006_36, .string x140007_36]) ?_ 5 _ rfl; (with_reducible repeat (first | refine blk_drewN ?_ _ | refine blk_drew ?_ | refine blk_alloc ?_ _)); refine blk_put (cs := #[.int .i64 t181, .int .i64 t182, .int .i64 t183, .int .i64 t184, .int .i64 x140004_36, .int .i64 x140005_36, .int .i64 x140006_36, .string x140007_36]) ?_ 4 _ rfl; (with_reducible repeat (first | refine blk_drewN ?_ _ | refine blk_drew ?_ | refine blk_alloc ?_ _)); refine blk_put (cs := #[.int .i64 t181, .int .i64 t182, .int .i64 t183, .int .i64 x140003_36, .int .i64 x140004_36, .int .i64 x140005_36, .int .i64 x140006_36, .string x140007_36]) ?_ 3 _ rfl; (with_reducible repeat (first | refine blk_drewN ?_ _ | refine blk_drew ?_ | refine blk_alloc ?_ _)); refine blk_put (cs := #[.int .i64 t181, .int .i64 t182, .int .i64 x140002_36, .int .i64 x140003_36, .int .i64 x140004_36, .int .i64 x140005_36, .int .i64 x140006_36, .string x140007_36]) ?_ 2 _ rfl; (with_reducible repeat (first | refine blk_drewN ?_ _ | refine blk_drew ?_ | refine blk_alloc ?_ _)); refine blk_put (cs := #[.int .i64 t181, .int .i64 x140001_36, .int .i64 x140002_36, .int .i64 x140003_36, .int .i64 x140004_36, .int .i64 x140005_36, .int .i64 x140006_36, .string x140007_36]) ?_ 1 _ rfl; (with_reducible repeat (first | refine blk_drewN ?_ _ | refine blk_drew ?_ | refine blk_alloc ?_ _)); refine blk_put (cs := #[.int .i64 x140000_36, .int .i64 x140001_36, .int .i64 x140002_36, .int .i64 x140003_36, .int .i64 x140004_36, .int .i64 x140005_36, .int .i64 x140006_36, .string x140007_36]) ?_ 0 _ rfl; (with_reducible repeat (first | refine blk_drewN ?_ _ | refine blk_drew ?_ | refine blk_alloc ?_ _)); exact BK139.out), fun h0_ => absurd ((hoff 10 (by kernel_rfl)).symm.trans h0_) (by decide)⟩
           refine steps_cons ?_ ?_
           ·rintro b a w' ⟨v190, m10_, ha, Q_HO178, Q_BK136, Q_BK137, Q_BK138, Q_BK139, Q_BK142, Q_HB, Q_HO191, Q_BK139_e9, Q_X10_⟩ hb_ hon hoff
            refine ⟨_, rfl, fun K hK => ?_⟩
            have e99 : a.tmps[99]? = some (v190) := by rw [ha]; exact putSel_on (e := (8, 99, v190)) 5 rfl rfl (hon 8 (by kernel_rfl)) rfl
            replace ha := Aside0.mk ha
            have HO178 := Aside0.mk Q_HO178
            have BK136 := Aside0.mk Q_BK136
            have BK137 := Aside0.mk Q_BK137
            have BK138 := Aside0.mk Q_BK138
            have BK142 := Aside0.mk Q_BK142
            have HB := Aside0.mk Q_HB
            have HO191 := Aside0.mk (Q_HO191 (hon 8 (by kernel_rfl)))
            have BK139 := Aside0.mk (Q_BK139_e9 (hon 9 (by kernel_rfl)))
            refine value_ (w1 := w') (v := v190) (by rfl) rfl ?_ ?_
            ·go_simp
             (try simp only [i64_w, u8_w, u32_w, w64_m8, w64_m32])
             try rfl
            refine hK.out _ _ ⟨v190, (v190), (by rw [ha.out]; exact putSel_upk 6 hb_ rfl rfl rfl), Q_HO178, Q_BK136, Q_BK137, Q_BK138, fun h0_ => absurd ((hon 9 (by kernel_rfl)).symm.trans h0_) (by decide), Q_BK142, Q_HB, Q_HO191, Q_BK139_e9, fun _ => rfl⟩
           exact steps_nil
          rintro b a w122 hall ⟨v190, m10_, ha, Q_HO178, Q_BK136, Q_BK137, Q_BK138, Q_BK139, Q_BK142, Q_HB, Q_HO191, Q_BK139_e9, Q_X10_⟩
          clear BK136 BK137 BK138 BK139 BK142 HB HO178
          have hb0_ := hall 0 (by kernel_rfl)
          have hb1_ := hall 1 (by kernel_rfl)
          have hb3_ := hall 3 (by kernel_rfl)
          have hb5_ := hall 5 (by kernel_rfl)
          have hb7_ := hall 7 (by kernel_rfl)
          have hb8_ := hall 8 (by kernel_rfl)
          have hb9_ := hall 9 (by kernel_rfl)
          have hb10_ := hall 10 (by kernel_rfl)
          subst ha
          obtain rfl := Q_X10_ hb10_
          simp only [putSel, hb0_, hb1_, hb3_, hb5_, hb7_, hb8_, hb9_, hb10_, if_true, Act.put, List.setIfInBounds_toArray, List.set_cons_zero, List.set_cons_succ]
          have HO178 := Aside0.mk Q_HO178
          clear Q_HO178
          have BK136 := Aside0.mk Q_BK136
          clear Q_BK136
          have BK137 := Aside0.mk Q_BK137
          clear Q_BK137
          have BK138 := Aside0.mk Q_BK138
          clear Q_BK138
          clear Q_BK139
          have BK142 := Aside0.mk Q_BK142
          clear Q_BK142
          have HB := Aside0.mk Q_HB
          clear Q_HB
          have HO191 := Aside0.mk (Q_HO191 hb8_)
          clear Q_HO191
          have BK139 := Aside0.mk (Q_BK139_e9 hb9_)
          clear Q_BK139_e9
          clear hall hb0_ hb1_ hb3_ hb5_ hb7_ hb8_ hb9_ hb10_
          try go_wp2
          refine bodyPost_ret (results_ct rfl _ _ gb139 27 #[.int .i64 t181, .int .i64 t182, .int .i64 t183, .int .i64 t184, .int .i64 t185, .int .i64 t186, .int .i64 t187, .string t188] (0, 0) _ rfl (bkw BK139.out) Try.underlying27 rfl (by kernel_rfl)) rfl ?_
          exact ⟨_, by first | rfl | (simp [errW_none, errW_some] <;> rfl) | (simp [*, errW_none, errW_some] <;> rfl), by (with_reducible repeat (first | apply Kd.R_alloc | apply Kd.R_drewN | apply Kd.R_drew)); exact Kd.R_mono HO191.out (fun _ hk => trivial), by repeat (first | (with_reducible first | exact HB.out | apply below_alloc | apply pw_below_drewN | apply below_drew1 | refine below_set ?_ GE136.out | refine below_set ?_ GE137.out | refine below_set ?_ GE138.out | refine below_set ?_ GE139.out | refine below_set ?_ GE142.out) | exact HB.out)⟩
        ·rw [if_neg c71] at H
         exact absurd H (by simp)
       ·rw [if_neg c70] at H
        have c70b0 : (a1_0 == 1) = false := beq_eq_false_iff_ne.mpr c70
        have c70b1 : (a1_0 != 1) = true := bne_iff_ne.mpr c70
        by_cases c123 : a1_7.size ≤ 140737488355328
        ·rw [if_pos c123] at H
         have c123b0 := eq_true c123
         have c123b1 : decide (a1_7.size ≤ 140737488355328) = true := decide_eq_true c123
         clear c123
         obtain ⟨y154, hy154⟩ : ∃ y_ : List Int, y_ = (bytesOf a1_7) := ⟨_, rfl⟩
         replace H : ((sync_record.f kj36 a2_0 a2_1 a2_2 a2_3 a2_4 a2_5 a2_6).bind fun t157 => (if y154.length + t157.length < 140737488355328 then ((sync_last_byte.f (y154 ++ t157) (wrap64 (9 * (a0_0.size : Int)))).bind fun t163 => ((sync_found.f kj36 a0_0 a0_1 a0_2 t163).bind fun t166 => (if t166 = true then ((sync_search.f a1_0 a2_1 a1_2 a1_3 a1_4 a1_5 a2_2 (strOfNums t163)).bind fun bt167 => ((sync_from.f kj36 t163).bind fun t175 => (some (1, bt167.2.1, t175, bt167.2.2.2.1, bt167.2.2.2.2.1, bt167.2.2.2.2.2.1, bt167.2.2.2.2.2.2.1, bt167.2.2.2.2.2.2.2, ([] : List (S32)))))) else (some (a1_0, a2_1, a1_2, a1_3, a1_4, a1_5, a2_2, strOfNums t163, ([] : List (S32))))))) else (none))) = some (r1, r2, r3, r4, r5, r6, r7, r8, r9) := by first | (rw [hy154]; with_reducible exact H) | (have H2_ := (Option.bind_some _ _).symm.trans H; rw [hy154]; with_reducible exact H2_) | (have H2_ := (Option.bind_some _ _).symm.trans H; with_reducible exact H2_) | with_reducible exact H | (rw [hy154]; exact H) | exact H
         have Ny154 := Aside0.mk hy154
         clear hy154
         replace H := Option.bind_eq_some_iff.mp H
         obtain ⟨t157, A1240, H⟩ := H
         replace H : (if y154.length + t157.length < 140737488355328 then ((sync_last_byte.f (y154 ++ t157) (wrap64 (9 * (a0_0.size : Int)))).bind fun t163 => ((sync_found.f kj36 a0_0 a0_1 a0_2 t163).bind fun t166 => (if t166 = true then ((sync_search.f a1_0 a2_1 a1_2 a1_3 a1_4 a1_5 a2_2 (strOfNums t163)).bind fun bt167 => ((sync_from.f kj36 t163).bind fun t175 => (some (1, bt167.2.1, t175, bt167.2.2.2.1, bt167.2.2.2.2.1, bt167.2.2.2.2.2.1, bt167.2.2.2.2.2.2.1, bt167.2.2.2.2.2.2.2, ([] : List (S32)))))) else (some (a1_0, a2_1, a1_2, a1_3, a1_4, a1_5, a2_2, strOfNums t163, ([] : List (S32))))))) else (none)) = some (r1, r2, r3, r4, r5, r6, r7, r8, r9) := H
         have A124 := Aside0.mk A1240
         clear A1240
         by_cases c125 : y154.length + t157.length < 140737488355328
         ·rw [if_pos c125] at H
          have LMc125 := Aside0.mk c125
          clear c125
          obtain ⟨y160, hy160⟩ : ∃ y_ : List Int, y_ = (y154 ++ t157) := ⟨_, rfl⟩
          replace H : ((sync_last_byte.f y160 (wrap64 (9 * (a0_0.size : Int)))).bind fun t163 => ((sync_found.f kj36 a0_0 a0_1 a0_2 t163).bind fun t166 => (if t166 = true then ((sync_search.f a1_0 a2_1 a1_2 a1_3 a1_4 a1_5 a2_2 (strOfNums t163)).bind fun bt167 => ((sync_from.f kj36 t163).bind fun t175 => (some (1, bt167.2.1, t175, bt167.2.2.2.1, bt167.2.2.2.2.1, bt167.2.2.2.2.2.1, bt167.2.2.2.2.2.2.1, bt167.2.2.2.2.2.2.2, ([] : List (S32)))))) else (some (a1_0, a2_1, a1_2, a1_3, a1_4, a1_5, a2_2, strOfNums t163, ([] : List (S32))))))) = some (r1, r2, r3, r4, r5, r6, r7, r8, r9) := by first | (rw [hy160]; with_reducible exact H) | (have H2_ := (Option.bind_some _ _).symm.trans H; rw [hy160]; with_reducible exact H2_) | (have H2_ := (Option.bind_some _ _).symm.trans H; with_reducible exact H2_) | with_reducible exact H | (rw [hy160]; exact H) | exact H
          have Ny160 := Aside0.mk hy160
          clear hy160
          replace H := Option.bind_eq_some_iff.mp H
          obtain ⟨t163, A1260, H⟩ := H
          replace H : ((sync_found.f kj36 a0_0 a0_1 a0_2 t163).bind fun t166 => (if t166 = true then ((sync_search.f a1_0 a2_1 a1_2 a1_3 a1_4 a1_5 a2_2 (strOfNums t163)).bind fun bt167 => ((sync_from.f kj36 t163).bind fun t175 => (some (1, bt167.2.1, t175, bt167.2.2.2.1, bt167.2.2.2.2.1, bt167.2.2.2.2.2.1, bt167.2.2.2.2.2.2.1, bt167.2.2.2.2.2.2.2, ([] : List (S32)))))) else (some (a1_0, a2_1, a1_2, a1_3, a1_4, a1_5, a2_2, strOfNums t163, ([] : List (S32)))))) = some (r1, r2, r3, r4, r5, r6, r7, r8, r9) := H
          have A126 := Aside0.mk A1260
          clear A1260
          replace H := Option.bind_eq_some_iff.mp H
          obtain ⟨t166, A1270, H⟩ := H
          replace H : (if t166 = true then ((sync_search.f a1_0 a2_1 a1_2 a1_3 a1_4 a1_5 a2_2 (strOfNums t163)).bind fun bt167 => ((sync_from.f kj36 t163).bind fun t175 => (some (1, bt167.2.1, t175, bt167.2.2.2.1, bt167.2.2.2.2.1, bt167.2.2.2.2.2.1, bt167.2.2.2.2.2.2.1, bt167.2.2.2.2.2.2.2, ([] : List (S32)))))) else (some (a1_0, a2_1, a1_2, a1_3, a1_4, a1_5, a2_2, strOfNums t163, ([] : List (S32))))) = some (r1, r2, r3, r4, r5, r6, r7, r8, r9) := H
          have A127 := Aside0.mk A1270
          clear A1270
          by_cases c128 : t166 = true
          ·subst c128
           have H1 : ((sync_search.f a1_0 a2_1 a1_2 a1_3 a1_4 a1_5 a2_2 (strOfNums t163)).bind fun bt167 => ((sync_from.f kj36 t163).bind fun t175 => (some (1, bt167.2.1, t175, bt167.2.2.2.1, bt167.2.2.2.2.1, bt167.2.2.2.2.2.1, bt167.2.2.2.2.2.2.1, bt167.2.2.2.2.2.2.2, ([] : List (S32)))))) = some (r1, r2, r3, r4, r5, r6, r7, r8, r9) := by rw [if_pos rfl] at H; exact H
           clear H
           have H := H1
           clear H1
           replace H := Option.bind_eq_some_iff.mp H
           obtain ⟨⟨t167, t168, t169, t170, t171, t172, t173, t174⟩, A1290, H⟩ := H
           replace H : ((sync_from.f kj36 t163).bind fun t175 => (some (1, t168, t175, t170, t171, t172, t173, t174, ([] : List (S32))))) = some (r1, r2, r3, r4, r5, r6, r7, r8, r9) := H
           have A129 := Aside0.mk A1290
           clear A1290
           replace H := Option.bind_eq_some_iff.mp H
           obtain ⟨t175, A1300, H⟩ := H
           replace H : (some (1, t168, t175, t170, t171, t172, t173, t174, ([] : List (S32)))) = some (r1, r2, r3, r4, r5, r6, r7, r8, r9) := H
           have A130 := Aside0.mk A1300
           clear A1300
           simp only [Option.some.injEq, Prod.mk.injEq] at H
           obtain ⟨rfl, rfl, rfl, rfl, rfl, rfl, rfl, rfl, rfl⟩ := H
           have hnb131 := NB137_136.out
           have hnc131 := NB136_137.out
           have hnb132 := NB137_138.out
           have hnc132 := NB138_137.out
           have hnb133 := NB137_139.out
           have hnc133 := NB139_137.out
           have hnb134 := NB137_142.out
           have hnc134 := NB142_137.out
           have hcz135_0 : wc.cell? ⟨gb137, 0, none⟩ = some (.int .i64 a1_0) := (blk_cell BK137.out 0).trans rfl
           have hcz135_1 : wc.cell? ⟨gb137, 1, none⟩ = some (.int .i64 a2_1) := (blk_cell BK137.out 1).trans rfl
           have hcz135_2 : wc.cell? ⟨gb137, 2, none⟩ = some (.int .i64 a1_2) := (blk_cell BK137.out 2).trans rfl
           have hcz135_3 : wc.cell? ⟨gb137, 3, none⟩ = some (.int .i64 a1_3) := (blk_cell BK137.out 3).trans rfl
           have hcz135_4 : wc.cell? ⟨gb137, 4, none⟩ = some (.int .i64 a1_4) := (blk_cell BK137.out 4).trans rfl
           have hcz135_5 : wc.cell? ⟨gb137, 5, none⟩ = some (.int .i64 a1_5) := (blk_cell BK137.out 5).trans rfl
           have hcz135_6 : wc.cell? ⟨gb137, 6, none⟩ = some (.int .i64 a2_2) := (blk_cell BK137.out 6).trans rfl
           have hcz135_7 : wc.cell? ⟨gb137, 7, none⟩ = some (.string a1_7) := (blk_cell BK137.out 7).trans rfl
           have hfz135_0 := blk_frozen BK137.out 0
           have hfz135_1 := blk_frozen BK137.out 1
           have hfz135_2 := blk_frozen BK137.out 2
           have hfz135_3 := blk_frozen BK137.out 3
           have hfz135_4 := blk_frozen BK137.out 4
           have hfz135_5 := blk_frozen BK137.out 5
           have hfz135_6 := blk_frozen BK137.out 6
           have hfz135_7 := blk_frozen BK137.out 7
           try go_wp2
           have n0_ := Aside0.mk (blk_drew BK136.out)
           have n1_ := Aside0.mk (blk_drew BK137.out)
           have n2_ := Aside0.mk (blk_drew BK138.out)
           have n3_ := Aside0.mk (blk_drew BK139.out)
           have n4_ := Aside0.mk (blk_drew BK142.out)
           have n5_ := Aside0.mk (below_drew1 HB.out)
           clear BK136
           clear BK137
           clear BK138
           clear BK139
           clear BK142
           clear HB
           have BK136 := n0_
           have BK137 := n1_
           have BK138 := n2_
           have BK139 := n3_
           have BK142 := n4_
           have HB := n5_
           clear n0_ n1_ n2_ n3_ n4_ n5_
           refine start_ (n := 12) (S := fun w' => w'.cell? ⟨gb137, 0, none⟩ = some (.int .i64 a1_0) ∧ w'.cell? ⟨gb137, 1, none⟩ = some (.int .i64 a2_1) ∧ w'.cell? ⟨gb137, 2, none⟩ = some (.int .i64 a1_2) ∧ w'.cell? ⟨gb137, 3, none⟩ = some (.int .i64 a1_3) ∧ w'.cell? ⟨gb137, 4, none⟩ = some (.int .i64 a1_4) ∧ w'.cell? ⟨gb137, 5, none⟩ = some (.int .i64 a1_5) ∧ w'.cell? ⟨gb137, 6, none⟩ = some (.int .i64 a2_2) ∧ w'.cell? ⟨gb137, 7, none⟩ = some (.string a1_7) ∧ w'.cell? ⟨gb138, 0, none⟩ = some (.int .i64 a2_0) ∧ w'.cell? ⟨gb138, 1, none⟩ = some (.int .i64 a2_1) ∧ w'.cell? ⟨gb138, 2, none⟩ = some (.int .i64 a2_2) ∧ w'.cell? ⟨gb138, 3, none⟩ = some (.int .i64 a2_3) ∧ w'.cell? ⟨gb138, 4, none⟩ = some (.int .i64 a2_4) ∧ w'.cell? ⟨gb138, 5, none⟩ = some (.string a2_5) ∧ w'.cell? ⟨gb138, 6, none⟩ = some (.int .i64 a2_6) ∧ w'.cell? ⟨gb136, 0, none⟩ = some (.string a0_0) ∧ w'.cell? ⟨gb136, 1, none⟩ = some (.int .i64 a0_1) ∧ w'.cell? ⟨gb136, 2, none⟩ = some (.bool a0_2)) (ds := []) #[false, false, false, false, false, false, false, false, false, false, false, false] (by kernel_rfl) rfl rfl ⟨(blk_cell BK137.out 0).trans rfl, (blk_cell BK137.out 1).trans rfl, (blk_cell BK137.out 2).trans rfl, (blk_cell BK137.out 3).trans rfl, (blk_cell BK137.out 4).trans rfl, (blk_cell BK137.out 5).trans rfl, (blk_cell BK137.out 6).trans rfl, (blk_cell BK137.out 7).trans rfl, (blk_cell BK138.out 0).trans rfl, (blk_cell BK138.out 1).trans rfl, (blk_cell BK138.out 2).trans rfl, (blk_cell BK138.out 3).trans rfl, (blk_cell BK138.out 4).trans rfl, (blk_cell BK138.out 5).trans rfl, (blk_cell BK138.out 6).trans rfl, (blk_cell BK136.out 0).trans rfl, (blk_cell BK136.out 1).trans rfl, (blk_cell BK136.out 2).trans rfl⟩ (fun hHeld => ?_); refine with_tabW sync_Step.tab8 sync_Step.bits8 (fun HT_ HW_ => ?_)
           generalize wc.drew = w136 at BK136 BK137 BK138 BK139 BK142 HB hHeld ⊢
           refine pstep 0 (some 41) #[true, false, false, false, false, false, false, false, false, false, false, false] HT_.out ?_
           refine pstep 6 (some 47) #[true, false, false, false, false, false, true, false, false, false, false, false] HT_.out ?_
           refine take_ (i := 1) (N := some 42) (v := ?_) (a' := ?_) #[true, true, false, false, false, false, true, false, false, false, false, false] rfl rfl (take_ofW HT_.out HW_.out (by kernel_rfl)) (fun _ _ _ h => h) (Or.inl ⟨by rfl, ?_⟩) hHeld ?_ ?_
           rotate_left
           ·rintro w' ⟨s0, s1, s2, s3, s4, s5, s6, s7, s8, s9, s10, s11, s12, s13, s14, s15, s16, s17⟩
            go_simp
            with_reducible rfl
           rotate_left
           ·simp only [Act.put, nrm]
            rfl
           refine take_ (i := 3) (N := some 44) (v := ?_) (a' := ?_) #[true, true, false, true, false, false, true, false, false, false, false, false] rfl rfl (take_ofW HT_.out HW_.out (by kernel_rfl)) (fun _ _ _ h => h) (Or.inl ⟨by rfl, ?_⟩) hHeld ?_ ?_
           rotate_left
           ·rintro w' ⟨s0, s1, s2, s3, s4, s5, s6, s7, s8, s9, s10, s11, s12, s13, s14, s15, s16, s17⟩
            go_simp
            with_reducible rfl
           rotate_left
           ·simp only [Act.put, nrm]
            rfl
           refine take_ (i := 7) (N := some 48) (v := ?_) (a' := ?_) #[true, true, false, true, false, false, true, true, false, false, false, false] rfl rfl (take_ofW HT_.out HW_.out (by kernel_rfl)) (fun _ _ _ h => h) (Or.inl ⟨by rfl, ?_⟩) hHeld ?_ ?_
           rotate_left
           ·rintro w' ⟨s0, s1, s2, s3, s4, s5, s6, s7, s8, s9, s10, s11, s12, s13, s14, s15, s16, s17⟩
            go_simp
            with_reducible rfl
           rotate_left
           ·simp only [Act.put, nrm]
            rfl
           refine pstep 8 (some 49) #[true, true, false, true, false, false, true, true, true, false, false, false] HT_.out ?_
           refine pstep 9 (some 50) #[true, true, false, true, false, false, true, true, true, true, false, false] HT_.out ?_
           refine join_ (σ := Value × Value) 3 #[true, true, true, true, true, false, true, true, true, true, false, false] (fun s_ => [(43, s_.1), (45, s_.2)]) (fun s_ w' => (w'.cell? ⟨gb137, 0, none⟩ = some (.int .i64 a1_0) ∧ w'.cell? ⟨gb137, 1, none⟩ = some (.int .i64 a2_1) ∧ w'.cell? ⟨gb137, 2, none⟩ = some (.int .i64 a1_2) ∧ w'.cell? ⟨gb137, 3, none⟩ = some (.int .i64 a1_3) ∧ w'.cell? ⟨gb137, 4, none⟩ = some (.int .i64 a1_4) ∧ w'.cell? ⟨gb137, 5, none⟩ = some (.int .i64 a1_5) ∧ w'.cell? ⟨gb137, 6, none⟩ = some (.int .i64 a2_2) ∧ w'.cell? ⟨gb137, 7, none⟩ = some (.string a1_7) ∧ w'.cell? ⟨gb138, 0, none⟩ = some (.int .i64 a2_0) ∧ w'.cell? ⟨gb138, 1, none⟩ = some (.int .i64 a2_1) ∧ w'.cell? ⟨gb138, 2, none⟩ = some (.int .i64 a2_2) ∧ w'.cell? ⟨gb138, 3, none⟩ = some (.int .i64 a2_3) ∧ w'.cell? ⟨gb138, 4, none⟩ = some (.int .i64 a2_4) ∧ w'.cell? ⟨gb138, 5, none⟩ = some (.string a2_5) ∧ w'.cell? ⟨gb138, 6, none⟩ = some (.int .i64 a2_6) ∧ w'.cell? ⟨gb136, 0, none⟩ = some (.string a0_0) ∧ w'.cell? ⟨gb136, 1, none⟩ = some (.int .i64 a0_1) ∧ w'.cell? ⟨gb136, 2, none⟩ = some (.bool a0_2)) ∧ (Kd.B (Kd.int .u8) 5 w' w.heap.size (fun k_ => some k_ ≠ (s_.2 : Value).ownBlock) s_.1 y154) ∧ (Kd.R (Kd.int .u8) 5 w' w.heap.size (fun k_ => some k_ ≠ (s_.1 : Value).ownBlock) s_.2 t157) ∧ (w'.heap[gb136]? = some (.cells #[.string a0_0, .int .i64 a0_1, .bool a0_2] 23 (0, 0))) ∧ (w'.heap[gb137]? = some (.cells #[.int .i64 a1_0, .int .i64 a2_1, .int .i64 a1_2, .int .i64 a1_3, .int .i64 a1_4, .int .i64 a1_5, .int .i64 a2_2, .string a1_7] 27 (0, 0))) ∧ (w'.heap[gb138]? = some (.cells #[.int .i64 a2_0, .int .i64 a2_1, .int .i64 a2_2, .int .i64 a2_3, .int .i64 a2_4, .string a2_5, .int .i64 a2_6] 32 (0, 0))) ∧ (w'.heap[gb139]? = some (.cells #[.int .i64 x140000_36, .int .i64 x140001_36, .int .i64 x140002_36, .int .i64 x140003_36, .int .i64 x140004_36, .int .i64 x140005_36, .int .i64 x140006_36, .string x140007_36] 27 (0, 0))) ∧ (w'.heap[gb142]? = some (.cells #[.int .i64 a1_0, .int .i64 a1_1, .int .i64 a1_2, .int .i64 a1_3, .int .i64 a1_4, .int .i64 a1_5, .int .i64 a1_6, .string a1_7] 27 (0, 0))) ∧ (Below w.heap.size w w')) ?_ ?_
           rotate_left
           ·intro hCont
            refine two_ (i := 2) (j := 4) (Ni := some 43) (Nj := some 45) #[true, true, true, true, false, false, true, true, true, true, false, false] #[true, true, false, true, true, false, true, true, true, true, false, false] rfl rfl rfl rfl (two_of HT_.out (by kernel_rfl)) (by decide) (by decide) (fun K hK => ?_) (fun K hK => ?_)
            ·skip
             refine Kd.B_conv_step _ 5 (by rfl) (N := 43) rfl 9 53 _ rfl a1_7 rfl Try.underlying9 Try.underlying53 Try.underlying5 (of_decide_eq_true (by first | (with_reducible assumption) | assumption)) (ok := fun _ => True) trivial (Below.refl _ _) (Nat.le_refl _) ?_
             intro v155 w137 ho138 hb hg_ hnew_
             clear hg_ hnew_
             (first | rw [← Ny154.out] at ho138 | (simp only [Int.reduceToNat] at ho138; rw [← Ny154.out] at ho138))
             have n0_ := Aside0.mk (Kd.B_lower ho138 (below_size (hbw HB.out)))
             have n1_ := Aside0.mk (blkb BK136.out hb)
             have n2_ := Aside0.mk (blkb BK137.out hb)
             have n3_ := Aside0.mk (blkb BK138.out hb)
             have n4_ := Aside0.mk (blkb BK139.out hb)
             have n5_ := Aside0.mk (blkb BK142.out hb)
             have n6_ := Aside0.mk (below_step (hbw HB.out) hb)
             clear BK136
             clear BK137
             clear BK138
             clear BK139
             clear BK142
             clear HB
             have HO156 := n0_
             have BK136 := n1_
             have BK137 := n2_
             have BK138 := n3_
             have BK139 := n4_
             have BK142 := n5_
             have HB := n6_
             clear n0_ n1_ n2_ n3_ n4_ n5_ n6_
             clear hb ho138
             refine hK.out _ _ ⟨(blk_cell BK137.out 0).trans rfl, (blk_cell BK137.out 1).trans rfl, (blk_cell BK137.out 2).trans rfl, (blk_cell BK137.out 3).trans rfl, (blk_cell BK137.out 4).trans rfl, (blk_cell BK137.out 5).trans rfl, (blk_cell BK137.out 6).trans rfl, (blk_cell BK137.out 7).trans rfl, (blk_cell BK138.out 0).trans rfl, (blk_cell BK138.out 1).trans rfl, (blk_cell BK138.out 2).trans rfl, (blk_cell BK138.out 3).trans rfl, (blk_cell BK138.out 4).trans rfl, (blk_cell BK138.out 5).trans rfl, (blk_cell BK138.out 6).trans rfl, (blk_cell BK136.out 0).trans rfl, (blk_cell BK136.out 1).trans rfl, (blk_cell BK136.out 2).trans rfl⟩ (fun hHeld => ?_)
             clear hK K
             refine norm_ (a' := ?_) ?_ ?_
             rotate_left
             ·show Act.put _ (some 43) _ = _
              simp only [Act.put, nrm]
              rfl
             refine one_ (i := 4) (N := some 45) #[true, true, true, true, true, false, true, true, true, true, false, false] rfl rfl (one_of HT_.out (by kernel_rfl)) (by decide) (fun K hK => ?_)
             refine goes_ Try.func30 (by kernel_rfl) rfl #[.agg #[.int .i64 a2_0, .int .i64 a2_1, .int .i64 a2_2, .int .i64 a2_3, .int .i64 a2_4, .string a2_5, .int .i64 a2_6]] (by rfl) rfl rfl (by (try simp only [List.map_toArray, List.map_cons, List.map_nil]); first | done | rfl | (simp only [List.length_drop, List.length_take]; rfl)) ?_
             with_reducible refine (sync_record.calls kj36 a2_0 a2_1 a2_2 a2_3 a2_4 a2_5 a2_6 t157 _ A124.out).mono ?_
             rintro e w139 ⟨v158, rfl, ho0, hb⟩
             refine ⟨_, rfl, ?_⟩
             have n0_ := Aside0.mk (Kd.B_elder' (by (with_reducible repeat (first | apply Kd.B_alloc | apply Kd.B_drewN | apply Kd.B_drew)); exact HO156.out) (Kd.R_base ho0) hb)
             have n1_ := Aside0.mk (Kd.R_lower (Kd.R_new' ho0 (Kd.B_lt (by (with_reducible repeat (first | apply Kd.B_alloc | apply Kd.B_drewN | apply Kd.B_drew)); exact HO156.out))) (below_size (hbw HB.out)))
             have n2_ := Aside0.mk (blkb BK136.out hb)
             have n3_ := Aside0.mk (blkb BK137.out hb)
             have n4_ := Aside0.mk (blkb BK138.out hb)
             have n5_ := Aside0.mk (blkb BK139.out hb)
             have n6_ := Aside0.mk (blkb BK142.out hb)
             have n7_ := Aside0.mk (below_step (hbw HB.out) hb)
             clear HO156
             clear BK136
             clear BK137
             clear BK138
             clear BK139
             clear BK142
             clear HB
             have HO156 := n0_
             have HO159 := n1_
             have BK136 := n2_
             have BK137 := n3_
             have BK138 := n4_
             have BK139 := n5_
             have BK142 := n6_
             have HB := n7_
             clear n0_ n1_ n2_ n3_ n4_ n5_ n6_ n7_
             (try clear hb)
             (try clear hb2)
             (try clear hk)
             (try clear hi)
             (try clear ho0)
             refine hK.out _ _ ⟨(blk_cell BK137.out 0).trans rfl, (blk_cell BK137.out 1).trans rfl, (blk_cell BK137.out 2).trans rfl, (blk_cell BK137.out 3).trans rfl, (blk_cell BK137.out 4).trans rfl, (blk_cell BK137.out 5).trans rfl, (blk_cell BK137.out 6).trans rfl, (blk_cell BK137.out 7).trans rfl, (blk_cell BK138.out 0).trans rfl, (blk_cell BK138.out 1).trans rfl, (blk_cell BK138.out 2).trans rfl, (blk_cell BK138.out 3).trans rfl, (blk_cell BK138.out 4).trans rfl, (blk_cell BK138.out 5).trans rfl, (blk_cell BK138.out 6).trans rfl, (blk_cell BK136.out 0).trans rfl, (blk_cell BK136.out 1).trans rfl, (blk_cell BK136.out 2).trans rfl⟩ (fun hHeld => ?_)
             clear hK K
             refine norm_ (a' := ?_) ?_ ?_
             rotate_left
             ·show Act.put _ (some 45) _ = _
              simp only [Act.put, nrm]
              rfl
             exact norm_ (by simp only [putAll, Act.put, List.setIfInBounds_toArray, List.set_cons_zero, List.set_cons_succ]) (hCont (v155, v158) _ ⟨hHeld, (by (with_reducible repeat (first | apply Kd.B_alloc | apply Kd.B_drewN | apply Kd.B_drew)); exact Kd.B_mono HO156.out (fun _ hk => hk.2)), (by (with_reducible repeat (first | apply Kd.R_alloc | apply Kd.R_drewN | apply Kd.R_drew)); exact Kd.R_mono HO159.out (fun _ hk => hk.2)), (bkw BK136.out), (bkw BK137.out), (bkw BK138.out), (bkw BK139.out), (bkw BK142.out), (hbw HB.out)⟩)
            ·skip
             refine goes_ Try.func30 (by kernel_rfl) rfl #[.agg #[.int .i64 a2_0, .int .i64 a2_1, .int .i64 a2_2, .int .i64 a2_3, .int .i64 a2_4, .string a2_5, .int .i64 a2_6]] (by rfl) rfl rfl (by (try simp only [List.map_toArray, List.map_cons, List.map_nil]); first | done | rfl | (simp only [List.length_drop, List.length_take]; rfl)) ?_
             with_reducible refine (sync_record.calls kj36 a2_0 a2_1 a2_2 a2_3 a2_4 a2_5 a2_6 t157 _ A124.out).mono ?_
             rintro e w137 ⟨v158, rfl, ho0, hb⟩
             refine ⟨_, rfl, ?_⟩
             have n0_ := Aside0.mk (Kd.R_lower ho0 (below_size (hbw HB.out)))
             have n1_ := Aside0.mk (blkb BK136.out hb)
             have n2_ := Aside0.mk (blkb BK137.out hb)
             have n3_ := Aside0.mk (blkb BK138.out hb)
             have n4_ := Aside0.mk (blkb BK139.out hb)
             have n5_ := Aside0.mk (blkb BK142.out hb)
             have n6_ := Aside0.mk (below_step (hbw HB.out) hb)
             clear BK136
             clear BK137
             clear BK138
             clear BK139
             clear BK142
             clear HB
             have HO159 := n0_
             have BK136 := n1_
             have BK137 := n2_
             have BK138 := n3_
             have BK139 := n4_
             have BK142 := n5_
             have HB := n6_
             clear n0_ n1_ n2_ n3_ n4_ n5_ n6_
             (try clear hb)
             (try clear hb2)
             (try clear hk)
             (try clear hi)
             (try clear ho0)
             refine hK.out _ _ ⟨(blk_cell BK137.out 0).trans rfl, (blk_cell BK137.out 1).trans rfl, (blk_cell BK137.out 2).trans rfl, (blk_cell BK137.out 3).trans rfl, (blk_cell BK137.out 4).trans rfl, (blk_cell BK137.out 5).trans rfl, (blk_cell BK137.out 6).trans rfl, (blk_cell BK137.out 7).trans rfl, (blk_cell BK138.out 0).trans rfl, (blk_cell BK138.out 1).trans rfl, (blk_cell BK138.out 2).trans rfl, (blk_cell BK138.out 3).trans rfl, (blk_cell BK138.out 4).trans rfl, (blk_cell BK138.out 5).trans rfl, (blk_cell BK138.out 6).trans rfl, (blk_cell BK136.out 0).trans rfl, (blk_cell BK136.out 1).trans rfl, (blk_cell BK136.out 2).trans rfl⟩ (fun hHeld => ?_)
             clear hK K
             refine norm_ (a' := ?_) ?_ ?_
             rotate_left
             ·show Act.put _ (some 45) _ = _
              simp only [Act.put, nrm]
              rfl
             refine one_ (i := 2) (N := some 43) #[true, true, true, true, true, false, true, true, true, true, false, false] rfl rfl (one_of HT_.out (by kernel_rfl)) (by decide) (fun K hK => ?_)
             refine Kd.B_conv_step _ 5 (by rfl) (N := 43) rfl 9 53 _ rfl a1_7 rfl Try.underlying9 Try.underlying53 Try.underlying5 (of_decide_eq_true (by first | (with_reducible assumption) | assumption)) (ok := fun _ => True) trivial (Below.refl _ _) (Nat.le_refl _) ?_
             intro v155 w138 ho139 hb hg_ hnew_
             clear hg_ hnew_
             (first | rw [← Ny154.out] at ho139 | (simp only [Int.reduceToNat] at ho139; rw [← Ny154.out] at ho139))
             have n0_ := Aside0.mk (Kd.R_elder' (rkw HO159.out) (Kd.B_base ho139) hb)
             have n1_ := Aside0.mk (Kd.B_lower (Kd.B_new' ho139 (Kd.R_lt (rkw HO159.out))) (below_size (hbw HB.out)))
             have n2_ := Aside0.mk (blkb BK136.out hb)
             have n3_ := Aside0.mk (blkb BK137.out hb)
             have n4_ := Aside0.mk (blkb BK138.out hb)
             have n5_ := Aside0.mk (blkb BK139.out hb)
             have n6_ := Aside0.mk (blkb BK142.out hb)
             have n7_ := Aside0.mk (below_step (hbw HB.out) hb)
             clear HO159
             clear BK136
             clear BK137
             clear BK138
             clear BK139
             clear BK142
             clear HB
             have HO159 := n0_
             have HO156 := n1_
             have BK136 := n2_
             have BK137 := n3_
             have BK138 := n4_
             have BK139 := n5_
             have BK142 := n6_
             have HB := n7_
             clear n0_ n1_ n2_ n3_ n4_ n5_ n6_ n7_
             clear hb ho139
             refine hK.out _ _ ⟨(blk_cell BK137.out 0).trans rfl, (blk_cell BK137.out 1).trans rfl, (blk_cell BK137.out 2).trans rfl, (blk_cell BK137.out 3).trans rfl, (blk_cell BK137.out 4).trans rfl, (blk_cell BK137.out 5).trans rfl, (blk_cell BK137.out 6).trans rfl, (blk_cell BK137.out 7).trans rfl, (blk_cell BK138.out 0).trans rfl, (blk_cell BK138.out 1).trans rfl, (blk_cell BK138.out 2).trans rfl, (blk_cell BK138.out 3).trans rfl, (blk_cell BK138.out 4).trans rfl, (blk_cell BK138.out 5).trans rfl, (blk_cell BK138.out 6).trans rfl, (blk_cell BK136.out 0).trans rfl, (blk_cell BK136.out 1).trans rfl, (blk_cell BK136.out 2).trans rfl⟩ (fun hHeld => ?_)
             clear hK K
             refine norm_ (a' := ?_) ?_ ?_
             rotate_left
             ·show Act.put _ (some 43) _ = _
              simp only [Act.put, nrm]
              rfl
             exact norm_ (by simp only [putAll, Act.put, List.setIfInBounds_toArray, List.set_cons_zero, List.set_cons_succ]) (hCont (v155, v158) _ ⟨hHeld, (by (with_reducible repeat (first | apply Kd.B_alloc | apply Kd.B_drewN | apply Kd.B_drew)); exact Kd.B_mono HO156.out (fun _ hk => hk.2)), (by (with_reducible repeat (first | apply Kd.R_alloc | apply Kd.R_drewN | apply Kd.R_drew)); exact Kd.R_mono HO159.out (fun _ hk => hk.2)), (bkw BK136.out), (bkw BK137.out), (bkw BK138.out), (bkw BK139.out), (bkw BK142.out), (hbw HB.out)⟩)
           rintro ⟨v155, v158⟩ w140 ⟨hS_, h0_, h1_, h2_, h3_, h4_, h5_, h6_, h7_⟩
           have n0_ : Aside0 (Kd.B (Kd.int .u8) 5 w140 w.heap.size (fun k_ => some k_ ≠ (v158 : Value).ownBlock) v155 y154) := ⟨h0_⟩
           have n1_ : Aside0 (Kd.R (Kd.int .u8) 5 w140 w.heap.size (fun k_ => some k_ ≠ (v155 : Value).ownBlock) v158 t157) := ⟨h1_⟩
           have n2_ : Aside0 (w140.heap[gb136]? = some (.cells #[.string a0_0, .int .i64 a0_1, .bool a0_2] 23 (0, 0))) := ⟨h2_⟩
           have n3_ : Aside0 (w140.heap[gb137]? = some (.cells #[.int .i64 a1_0, .int .i64 a2_1, .int .i64 a1_2, .int .i64 a1_3, .int .i64 a1_4, .int .i64 a1_5, .int .i64 a2_2, .string a1_7] 27 (0, 0))) := ⟨h3_⟩
           have n4_ : Aside0 (w140.heap[gb138]? = some (.cells #[.int .i64 a2_0, .int .i64 a2_1, .int .i64 a2_2, .int .i64 a2_3, .int .i64 a2_4, .string a2_5, .int .i64 a2_6] 32 (0, 0))) := ⟨h4_⟩
           have n5_ : Aside0 (w140.heap[gb139]? = some (.cells #[.int .i64 x140000_36, .int .i64 x140001_36, .int .i64 x140002_36, .int .i64 x140003_36, .int .i64 x140004_36, .int .i64 x140005_36, .int .i64 x140006_36, .string x140007_36] 27 (0, 0))) := ⟨h5_⟩
           have n6_ : Aside0 (w140.heap[gb142]? = some (.cells #[.int .i64 a1_0, .int .i64 a1_1, .int .i64 a1_2, .int .i64 a1_3, .int .i64 a1_4, .int .i64 a1_5, .int .i64 a1_6, .string a1_7] 27 (0, 0))) := ⟨h6_⟩
           have n7_ : Aside0 (Below w.heap.size w w140) := ⟨h7_⟩
           clear BK136
           clear BK137
           clear BK138
           clear BK139
           clear BK142
           clear HB
           clear h0_ h1_ h2_ h3_ h4_ h5_ h6_ h7_
           have HO156 := n0_
           have HO159 := n1_
           have BK136 := n2_
           have BK137 := n3_
           have BK138 := n4_
           have BK139 := n5_
           have BK142 := n6_
           have HB := n7_
           clear n0_ n1_ n2_ n3_ n4_ n5_ n6_ n7_
           have hHeld : w140.cell? ⟨gb137, 0, none⟩ = some (.int .i64 a1_0) ∧ w140.cell? ⟨gb137, 1, none⟩ = some (.int .i64 a2_1) ∧ w140.cell? ⟨gb137, 2, none⟩ = some (.int .i64 a1_2) ∧ w140.cell? ⟨gb137, 3, none⟩ = some (.int .i64 a1_3) ∧ w140.cell? ⟨gb137, 4, none⟩ = some (.int .i64 a1_4) ∧ w140.cell? ⟨gb137, 5, none⟩ = some (.int .i64 a1_5) ∧ w140.cell? ⟨gb137, 6, none⟩ = some (.int .i64 a2_2) ∧ w140.cell? ⟨gb137, 7, none⟩ = some (.string a1_7) ∧ w140.cell? ⟨gb138, 0, none⟩ = some (.int .i64 a2_0) ∧ w140.cell? ⟨gb138, 1, none⟩ = some (.int .i64 a2_1) ∧ w140.cell? ⟨gb138, 2, none⟩ = some (.int .i64 a2_2) ∧ w140.cell? ⟨gb138, 3, none⟩ = some (.int .i64 a2_3) ∧ w140.cell? ⟨gb138, 4, none⟩ = some (.int .i64 a2_4) ∧ w140.cell? ⟨gb138, 5, none⟩ = some (.string a2_5) ∧ w140.cell? ⟨gb138, 6, none⟩ = some (.int .i64 a2_6) ∧ w140.cell? ⟨gb136, 0, none⟩ = some (.string a0_0) ∧ w140.cell? ⟨gb136, 1, none⟩ = some (.int .i64 a0_1) ∧ w140.cell? ⟨gb136, 2, none⟩ = some (.bool a0_2) := hS_
           obtain ⟨Ao142, co142, eo142⟩ := Kd.R_slice HO159.out
           (first | subst eo142 | (injection eo142 with f1_ f2_ f3_; have f4_ := f1_.symm; have f5_ := f3_.symm; clear f1_ f2_ f3_; subst f4_; subst f5_))
           refine norm_ (a' := ?_) ?_ ?_
           rotate_left
           ·simp only [putAll, Act.put, List.setIfInBounds_toArray, List.set_cons_zero, List.set_cons_succ]
            rfl
           refine one_ (i := 5) (N := some 46) #[true, true, true, true, true, true, true, true, true, true, false, false] rfl rfl (one_of HT_.out (by kernel_rfl)) (by decide) (fun K hK => ?_)
           refine Kd.B_append_rows_step (Kd.int .u8) (w0 := w) w.heap.size (by rfl) (.tmp 43) (.tmp 45) 53 5 (.int .u8 0) 1 rfl Try.underlying53 info5 rfl (by decide) (by omega) v155 y154 t157 _ _ _ (fun k_ => some k_ ≠ (.slice Ao142 t157.length co142 : Value).ownBlock) (fun _ => False) rfl rfl ?aO ?aR (fun _ _ h => h) (fun _ h => h.elim) ?aF ?aB ?aS ?aL ?_
           (case aR => repeat (first | exact (Kd.R_reads' HO159.out).2.2 | (with_reducible refine Kd.C_alloc ?_ _) | (with_reducible refine Kd.C_drewN ?_ _) | (with_reducible refine Kd.C_drew ?_)))
           (case aB => exact (hbw HB.out))
           (case aF => exact (fun k_ hk => Kd.fresh' (Kd.R_lt (rkw HO159.out)) k_ hk))
           (case aO => exact (by (with_reducible repeat (first | apply Kd.B_alloc | apply Kd.B_drewN | apply Kd.B_drew)); exact HO156.out))
           (case aS => exact (below_size (hbw HB.out)))
           (case aL => have := LMc125.out; omega)
           intro v161 w141 ho hb hg hat
           rw [← Ny160.out] at ho
           have n0_ := Aside0.mk (blkg BK136.out hg (Kd.B_ne HO156.out BK136.out (by decide)))
           have n1_ := Aside0.mk (blkg BK137.out hg (Kd.B_ne HO156.out BK137.out (by decide)))
           have n2_ := Aside0.mk (blkg BK138.out hg (Kd.B_ne HO156.out BK138.out (by decide)))
           have n3_ := Aside0.mk (blkg BK139.out hg (Kd.B_ne HO156.out BK139.out (by decide)))
           have n4_ := Aside0.mk (blkg BK142.out hg (Kd.B_ne HO156.out BK142.out (by decide)))
           have n5_ := Aside0.mk (Kd.R_after (ok := (fun _ => True)) (by (with_reducible repeat (first | apply Kd.R_alloc | apply Kd.R_drewN | apply Kd.R_drew)); exact Kd.R_mono HO159.out (fun _ hk => ⟨trivial, hk⟩)) hg hat)
           have n6_ := Aside0.mk (hb)
           have n7_ := Aside0.mk (ho)
           clear BK136
           clear BK137
           clear BK138
           clear BK139
           clear BK142
           clear HO159
           clear HB
           clear HO156
           have BK136 := n0_
           have BK137 := n1_
           have BK138 := n2_
           have BK139 := n3_
           have BK142 := n4_
           have HO159 := n5_
           have HB := n6_
           have HO162 := n7_
           clear n0_ n1_ n2_ n3_ n4_ n5_ n6_ n7_
           clear ho hb hg hat
           obtain ⟨Ao143, co143, eo143⟩ := Kd.B_slice HO162.out
           (first | subst eo143 | (injection eo143 with f1_ f2_ f3_; have f4_ := f1_.symm; have f5_ := f3_.symm; clear f1_ f2_ f3_; subst f4_; subst f5_))
           refine hK.out _ _ ⟨(blk_cell BK137.out 0).trans rfl, (blk_cell BK137.out 1).trans rfl, (blk_cell BK137.out 2).trans rfl, (blk_cell BK137.out 3).trans rfl, (blk_cell BK137.out 4).trans rfl, (blk_cell BK137.out 5).trans rfl, (blk_cell BK137.out 6).trans rfl, (blk_cell BK137.out 7).trans rfl, (blk_cell BK138.out 0).trans rfl, (blk_cell BK138.out 1).trans rfl, (blk_cell BK138.out 2).trans rfl, (blk_cell BK138.out 3).trans rfl, (blk_cell BK138.out 4).trans rfl, (blk_cell BK138.out 5).trans rfl, (blk_cell BK138.out 6).trans rfl, (blk_cell BK136.out 0).trans rfl, (blk_cell BK136.out 1).trans rfl, (blk_cell BK136.out 2).trans rfl⟩ (fun hHeld => ?_)
           clear hK K
           refine norm_ (a' := ?_) ?_ ?_
           rotate_left
           ·show Act.put _ (some 46) _ = _
            simp only [Act.put, nrm]
            rfl
           refine one_ (i := 10) (N := some 51) #[true, true, true, true, true, true, true, true, true, true, true, false] rfl rfl (one_of HT_.out (by kernel_rfl)) (by decide) (fun K hK => ?_)
           refine goes_ Try.func29 (by kernel_rfl) rfl #[.slice Ao143 y160.length co143, .int .i64 (wrap64 (9 * (a0_0.size : Int)))] (by rfl) rfl rfl (by (try simp only [List.map_toArray, List.map_cons, List.map_nil]); first | done | rfl | (simp only [List.length_drop, List.length_take]; rfl)) ?_
           with_reducible refine (sync_last_byte.callsB (fun k_ => some k_ = (.slice Ao143 y160.length co143 : Value).ownBlock) (.slice Ao143 y160.length co143) y160 (wrap64 (9 * (a0_0.size : Int))) t163 w _ ?side1 ?side2 A126.out).mono ?_
           (case side1 => repeat (first | (with_reducible first | exact HB.out | apply below_alloc | apply pw_below_drewN | apply below_drew1 | refine below_set ?_ GE136.out | refine below_set ?_ GE137.out | refine below_set ?_ GE138.out | refine below_set ?_ GE139.out | refine below_set ?_ GE142.out) | exact HB.out))
           (case side2 => exact Kd.B_tight rfl HO162.out)
           rintro e w144 ⟨v164, rfl, ho0, hb, hkp⟩
           refine ⟨_, rfl, ?_⟩
           have n0_ := Aside0.mk (blk_kept (bkw BK136.out) hkp (fun hs_ => (fun e_ => (Kd.B_ne HO162.out BK136.out (by decide)) e_) hs_))
           have n1_ := Aside0.mk (blk_kept (bkw BK137.out) hkp (fun hs_ => (fun e_ => (Kd.B_ne HO162.out BK137.out (by decide)) e_) hs_))
           have n2_ := Aside0.mk (blk_kept (bkw BK138.out) hkp (fun hs_ => (fun e_ => (Kd.B_ne HO162.out BK138.out (by decide)) e_) hs_))
           have n3_ := Aside0.mk (blk_kept (bkw BK139.out) hkp (fun hs_ => (fun e_ => (Kd.B_ne HO162.out BK139.out (by decide)) e_) hs_))
           have n4_ := Aside0.mk (blk_kept (bkw BK142.out) hkp (fun hs_ => (fun e_ => (Kd.B_ne HO162.out BK142.out (by decide)) e_) hs_))
           have n5_ := Aside0.mk (Kd.R_mono (ok' := fun k_ => some k_ ≠ (v164 : Value).ownBlock) (Kd.R_keptB (HO159.out) hkp (fun k_ hk_ hs_ => (hk_.2) hs_)) (fun k_ hk_ => fun e_ => Or.elim (ho0.1 k_ e_.symm) (fun hs_ => hk_.2.1 hs_) (fun hn_ => Nat.not_le.2 hk_.2.2 hn_)))
           have n6_ := Aside0.mk (Kd.D_mono (ok' := fun k_ => some k_ ≠ (.slice Ao142 t157.length co142 : Value).ownBlock) ho0 (fun k_ hk_ => Or.elim hk_ (fun hs_ => fun e_ => (((HO159.out).1 k_ e_.symm).2) hs_) (fun hn_ => (Kd.fresh' (Kd.R_lt (rkw HO159.out)) k_ hn_))))
           have n7_ := Aside0.mk (hb)
           clear BK136
           clear BK137
           clear BK138
           clear BK139
           clear BK142
           clear HO159
           clear HB
           clear HO162
           have BK136 := n0_
           have BK137 := n1_
           have BK138 := n2_
           have BK139 := n3_
           have BK142 := n4_
           have HO159 := n5_
           have HO165 := n6_
           have HB := n7_
           clear n0_ n1_ n2_ n3_ n4_ n5_ n6_ n7_
           (try clear hb)
           (try clear hkp)
           (try clear ho0)
           refine hK.out _ _ ⟨(blk_cell BK137.out 0).trans rfl, (blk_cell BK137.out 1).trans rfl, (blk_cell BK137.out 2).trans rfl, (blk_cell BK137.out 3).trans rfl, (blk_cell BK137.out 4).trans rfl, (blk_cell BK137.out 5).trans rfl, (blk_cell BK137.out 6).trans rfl, (blk_cell BK137.out 7).trans rfl, (blk_cell BK138.out 0).trans rfl, (blk_cell BK138.out 1).trans rfl, (blk_cell BK138.out 2).trans rfl, (blk_cell BK138.out 3).trans rfl, (blk_cell BK138.out 4).trans rfl, (blk_cell BK138.out 5).trans rfl, (blk_cell BK138.out 6).trans rfl, (blk_cell BK136.out 0).trans rfl, (blk_cell BK136.out 1).trans rfl, (blk_cell BK136.out 2).trans rfl⟩ (fun hHeld => ?_)
           clear hK K
           refine norm_ (a' := ?_) ?_ ?_
           rotate_left
           ·show Act.put _ (some 51) _ = _
            simp only [Act.put, nrm]
            rfl
           refine pstep 11 (some 9) #[true, true, true, true, true, true, true, true, true, true, true, true] HT_.out ?_
           refine done_ (done_of HT_.out (by kernel_rfl)) ?_
           have hcv145 := Kd.D_string (P := Try.prog) Try.underlying53 Try.underlying5 Try.underlying9 HO165.out
           have hcz146_0 : w144.cell? ⟨gb137, 0, none⟩ = some (.int .i64 a1_0) := (blk_cell BK137.out 0).trans rfl
           have hcz146_1 : w144.cell? ⟨gb137, 1, none⟩ = some (.int .i64 a2_1) := (blk_cell BK137.out 1).trans rfl
           have hcz146_2 : w144.cell? ⟨gb137, 2, none⟩ = some (.int .i64 a1_2) := (blk_cell BK137.out 2).trans rfl
           have hcz146_3 : w144.cell? ⟨gb137, 3, none⟩ = some (.int .i64 a1_3) := (blk_cell BK137.out 3).trans rfl
           have hcz146_4 : w144.cell? ⟨gb137, 4, none⟩ = some (.int .i64 a1_4) := (blk_cell BK137.out 4).trans rfl
           have hcz146_5 : w144.cell? ⟨gb137, 5, none⟩ = some (.int .i64 a1_5) := (blk_cell BK137.out 5).trans rfl
           have hcz146_6 : w144.cell? ⟨gb137, 6, none⟩ = some (.int .i64 a2_2) := (blk_cell BK137.out 6).trans rfl
           have hcz146_7 : w144.cell? ⟨gb137, 7, none⟩ = some (.string a1_7) := (blk_cell BK137.out 7).trans rfl
           have hfz146_0 := blk_frozen BK137.out 0
           have hfz146_1 := blk_frozen BK137.out 1
           have hfz146_2 := blk_frozen BK137.out 2
           have hfz146_3 := blk_frozen BK137.out 3
           have hfz146_4 := blk_frozen BK137.out 4
           have hfz146_5 := blk_frozen BK137.out 5
           have hfz146_6 := blk_frozen BK137.out 6
           have hfz146_7 := blk_frozen BK137.out 7
           have hnb147 := NB136_138.out
           have hnc147 := NB138_136.out
           have hnb148 := NB136_139.out
           have hnc148 := NB139_136.out
           have hnb149 := NB136_142.out
           have hnc149 := NB142_136.out
           have hcz150_0 : w144.cell? ⟨gb136, 0, none⟩ = some (.string a0_0) := (blk_cell BK136.out 0).trans rfl
           have hcz150_1 : w144.cell? ⟨gb136, 1, none⟩ = some (.int .i64 a0_1) := (blk_cell BK136.out 1).trans rfl
           have hcz150_2 : w144.cell? ⟨gb136, 2, none⟩ = some (.bool a0_2) := (blk_cell BK136.out 2).trans rfl
           have hfz150_0 := blk_frozen BK136.out 0
           have hfz150_1 := blk_frozen BK136.out 1
           have hfz150_2 := blk_frozen BK136.out 2
           obtain ⟨Ao151, co151, eo151, _⟩ := Kd.D_slice HO165.out
           subst eo151
           try go_wp2_with (first | ((with_reducible refine gate_callee (f := 31) rfl ?_); refine goesL_ (some 57) rfl rfl Try.func31 (by kernel_rfl) rfl #[.agg #[.string a0_0, .int .i64 a0_1, .bool a0_2], .slice Ao151 t163.length co151] rfl (by (try simp only [List.map_toArray, List.map_cons, List.map_nil]); first | done | rfl | (simp only [List.length_drop, List.length_take]; rfl)) ?_; (with_reducible refine (sync_found.calls kj36 a0_0 a0_1 a0_2 _ _ t163 true _ ?side1 ?side2 A127.out).mono ?_); (case side1 => refine (Kd.D_reads' (e := 5) (base := w.heap.size) (ok := fun k_ => some k_ ≠ (.slice Ao142 t157.length co142 : Value).ownBlock) (n := t163.length) (c := co151) ?_).2.2; exact (by (with_reducible repeat (first | apply Kd.D_alloc | apply Kd.D_drewN | apply Kd.D_drew)); exact (Kd.D_mono (Kd.D_far (p := ⟨gb137, 7, none⟩) (Kd.D_types HO165.out BK137.out (by decide)) (fun _ hk => hk.2) (.string (strOfNums t163))) (fun _ h_ => h_.1)))); (case side2 => exact (Kd.D_reads' HO165.out).2.1); rintro e w152 ⟨rfl, hb⟩; refine ⟨_, rfl, ?_⟩; have n0_ := Aside0.mk (Kd.R_below (by (with_reducible repeat (first | apply Kd.R_alloc | apply Kd.R_drewN | apply Kd.R_drew)); exact (Kd.R_mono (Kd.R_far (p := ⟨gb137, 7, none⟩) (Kd.R_types HO159.out BK137.out (by decide)) (fun _ hk => hk.2) (.string (strOfNums t163))) (fun _ h_ => h_.1))) hb); have n1_ := Aside0.mk (Kd.D_below (by (with_reducible repeat (first | apply Kd.D_alloc | apply Kd.D_drewN | apply Kd.D_drew)); exact (Kd.D_mono (Kd.D_far (p := ⟨gb137, 7, none⟩) (Kd.D_types HO165.out BK137.out (by decide)) (fun _ hk => hk.2) (.string (strOfNums t163))) (fun _ h_ => h_.1))) hb); have n2_ := Aside0.mk (blk_below (g := gb136) (o := .cells #[.string a0_0, .int .i64 a0_1, .bool a0_2] 23 (0, 0)) (by (with_reducible repeat (first | refine blk_drewN ?_ _ | refine blk_drew ?_ | refine blk_alloc ?_ _)); refine blk_far ?_ NB136_137.out _; (with_reducible repeat (first | refine blk_drewN ?_ _ | refine blk_drew ?_ | refine blk_alloc ?_ _)); exact BK136.out) hb); have n3_ := Aside0.mk (blk_below (g := gb137) (o := .cells #[.int .i64 a1_0, .int .i64 a2_1, .int .i64 a1_2, .int .i64 a1_3, .int .i64 a1_4, .int .i64 a1_5, .int .i64 a2_2, .string (strOfNums t163)] 27 (0, 0)) (by (with_reducible repeat (first | refine blk_drewN ?_ _ | refine blk_drew ?_ | refine blk_alloc ?_ _)); refine blk_put (cs := #[.int .i64 a1_0, .int .i64 a2_1, .int .i64 a1_2, .int .i64 a1_3, .int .i64 a1_4, .int .i64 a1_5, .int .i64 a2_2, .string a1_7]) ?_ 7 _ rfl; (with_reducible repeat (first | refine blk_drewN ?_ _ | refine blk_drew ?_ | refine blk_alloc ?_ _)); exact BK137.out) hb); have n4_ := Aside0.mk (blk_below (g := gb138) (o := .cells #[.int .i64 a2_0, .int .i64 a2_1, .int .i64 a2_2, .int .i64 a2_3, .int .i64 a2_4, .string a2_5, .int .i64 a2_6] 32 (0, 0)) (by (with_reducible repeat (first | refine blk_drewN ?_ _ | refine blk_drew ?_ | refine blk_alloc ?_ _)); refine blk_far ?_ NB138_137.out _; (with_reducible repeat (first | refine blk_drewN ?_ _ | refine blk_drew ?_ | refine blk_alloc ?_ _)); exact BK138.out) hb); have n5_ := Aside0.mk (blk_below (g := gb139) (o := .cells #[.int .i64 x140000_36, .int .i64 x140001_36, .int .i64 x140002_36, .int .i64 x140003_36, .int .i64 x140004_36, .int .i64 x140005_36, .int .i64 x140006_36, .string x140007_36] 27 (0, 0)) (by (with_reducible repeat (first | refine blk_drewN ?_ _ | refine blk_drew ?_ | refine blk_alloc ?_ _)); refine blk_far ?_ NB139_137.out _; (with_reducible repeat (first | refine blk_drewN ?_ _ | refine blk_drew ?_ | refine blk_alloc ?_ _)); exact BK139.out) hb); have n6_ := Aside0.mk (blk_below (g := gb142) (o := .cells #[.int .i64 a1_0, .int .i64 a1_1, .int .i64 a1_2, .int .i64 a1_3, .int .i64 a1_4, .int .i64 a1_5, .int .i64 a1_6, .string a1_7] 27 (0, 0)) (by (with_reducible repeat (first | refine blk_drewN ?_ _ | refine blk_drew ?_ | refine blk_alloc ?_ _)); refine blk_far ?_ NB142_137.out _; (with_reducible repeat (first | refine blk_drewN ?_ _ | refine blk_drew ?_ | refine blk_alloc ?_ _)); exact BK142.out) hb); have n7_ := Aside0.mk (below_step (hbw HB.out) hb); clear HO159; clear HO165; clear BK136; clear BK137; clear BK138; clear BK139; clear BK142; clear HB; have HO159 := n0_; have HO165 := n1_; have BK136 := n2_; have BK137 := n3_; have BK138 := n4_; have BK139 := n5_; have BK142 := n6_; have HB := n7_; clear n0_ n1_ n2_ n3_ n4_ n5_ n6_ n7_; (try clear hb); (try clear hb2); (try clear hk); (try clear hi); have hcz153_0 : w152.cell? ⟨gb137, 0, none⟩ = some (.int .i64 a1_0) := (blk_cell BK137.out 0).trans rfl; have hcz153_1 : w152.cell? ⟨gb137, 1, none⟩ = some (.int .i64 a2_1) := (blk_cell BK137.out 1).trans rfl; have hcz153_2 : w152.cell? ⟨gb137, 2, none⟩ = some (.int .i64 a1_2) := (blk_cell BK137.out 2).trans rfl; have hcz153_3 : w152.cell? ⟨gb137, 3, none⟩ = some (.int .i64 a1_3) := (blk_cell BK137.out 3).trans rfl; have hcz153_4 : w152.cell? ⟨gb137, 4, none⟩ = some (.int .i64 a1_4) := (blk_cell BK137.out 4).trans rfl; have hcz153_5 : w152.cell? ⟨gb137, 5, none⟩ = some (.int .i64 a1_5) := (blk_cell BK137.out 5).trans rfl; have hcz153_6 : w152.cell? ⟨gb137, 6, none⟩ = some (.int .i64 a2_2) := (blk_cell BK137.out 6).trans rfl; have hcz153_7 : w152.cell? ⟨gb137, 7, none⟩ = some (.string (strOfNums t163)) := (blk_cell BK137.out 7).trans rfl; have hfz153_0 := blk_frozen BK137.out 0; have hfz153_1 := blk_frozen BK137.out 1; have hfz153_2 := blk_frozen BK137.out 2; have hfz153_3 := blk_frozen BK137.out 3; have hfz153_4 := blk_frozen BK137.out 4; have hfz153_5 := blk_frozen BK137.out 5; have hfz153_6 := blk_frozen BK137.out 6; have hfz153_7 := blk_frozen BK137.out 7) | ((with_reducible refine gate_callee (f := 27) rfl ?_); refine goesL_ (some 59) rfl rfl Try.func27 (by kernel_rfl) rfl #[.agg #[.int .i64 a1_0, .int .i64 a2_1, .int .i64 a1_2, .int .i64 a1_3, .int .i64 a1_4, .int .i64 a1_5, .int .i64 a2_2, .string (strOfNums t163)]] rfl (by (try simp only [List.map_toArray, List.map_cons, List.map_nil]); first | done | rfl | (simp only [List.length_drop, List.length_take]; rfl)) ?_; (with_reducible refine (sync_search.calls a1_0 a2_1 a1_2 a1_3 a1_4 a1_5 a2_2 (strOfNums t163) t167 t168 t169 t170 t171 t172 t173 t174 _ A129.out).mono ?_); rintro e w154 ⟨rfl, hb⟩; refine ⟨_, rfl, ?_⟩; have n0_ := Aside0.mk (Kd.R_below (rkw HO159.out) hb); have n1_ := Aside0.mk (Kd.D_below (by (with_reducible repeat (first | apply Kd.D_alloc | apply Kd.D_drewN | apply Kd.D_drew)); exact HO165.out) hb); have n2_ := Aside0.mk (blkb BK136.out hb); have n3_ := Aside0.mk (blkb BK137.out hb); have n4_ := Aside0.mk (blkb BK138.out hb); have n5_ := Aside0.mk (blkb BK139.out hb); have n6_ := Aside0.mk (blkb BK142.out hb); have n7_ := Aside0.mk (below_step (hbw HB.out) hb); clear HO159; clear HO165; clear BK136; clear BK137; clear BK138; clear BK139; clear BK142; clear HB; have HO159 := n0_; have HO165 := n1_; have BK136 := n2_; have BK137 := n3_; have BK138 := n4_; have BK139 := n5_; have BK142 := n6_; have HB := n7_; clear n0_ n1_ n2_ n3_ n4_ n5_ n6_ n7_; (try clear hb); (try clear hb2); (try clear hk); (try clear hi); have hcz155_0 : w154.cell? ⟨gb137, 0, none⟩ = some (.int .i64 a1_0) := (blk_cell BK137.out 0).trans rfl; have hcz155_1 : w154.cell? ⟨gb137, 1, none⟩ = some (.int .i64 a2_1) := (blk_cell BK137.out 1).trans rfl; have hcz155_2 : w154.cell? ⟨gb137, 2, none⟩ = some (.int .i64 a1_2) := (blk_cell BK137.out 2).trans rfl; have hcz155_3 : w154.cell? ⟨gb137, 3, none⟩ = some (.int .i64 a1_3) := (blk_cell BK137.out 3).trans rfl; have hcz155_4 : w154.cell? ⟨gb137, 4, none⟩ = some (.int .i64 a1_4) := (blk_cell BK137.out 4).trans rfl; have hcz155_5 : w154.cell? ⟨gb137, 5, none⟩ = some (.int .i64 a1_5) := (blk_cell BK137.out 5).trans rfl; have hcz155_6 : w154.cell? ⟨gb137, 6, none⟩ = some (.int .i64 a2_2) := (blk_cell BK137.out 6).trans rfl; have hcz155_7 : w154.cell? ⟨gb137, 7, none⟩ = some (.string (strOfNums t163)) := (blk_cell BK137.out 7).trans rfl; have hfz155_0 := blk_frozen BK137.out 0; have hfz155_1 := blk_frozen BK137.out 1; have hfz155_2 := blk_frozen BK137.out 2; have hfz155_3 := blk_frozen BK137.out 3; have hfz155_4 := blk_frozen BK137.out 4; have hfz155_5 := blk_frozen BK137.out 5; have hfz155_6 := blk_frozen BK137.out 6; have hfz155_7 := blk_frozen BK137.out 7) | ((with_reducible refine gate_callee (f := 32) rfl ?_); refine goesL_ (some 61) rfl rfl Try.func32 (by kernel_rfl) rfl #[.slice Ao151 t163.length co151] rfl (by (try simp only [List.map_toArray, List.map_cons, List.map_nil]); first | done | rfl | (simp only [List.length_drop, List.length_take]; rfl)) ?_; (with_reducible refine (sync_from.calls kj36 _ _ t163 t175 _ ?side1 ?side2 A130.out).mono ?_); (case side1 => refine (Kd.D_reads' (e := 5) (base := w.heap.size) (ok := fun k_ => some k_ ≠ (.slice Ao142 t157.length co142 : Value).ownBlock) (n := t163.length) (c := co151) ?_).2.2; exact (by (with_reducible repeat (first | apply Kd.D_alloc | apply Kd.D_drewN | apply Kd.D_drew)); exact (Kd.D_mono (Kd.D_far (p := ⟨gb137, 7, none⟩) (Kd.D_far (p := ⟨gb137, 6, none⟩) (Kd.D_far (p := ⟨gb137, 5, none⟩) (Kd.D_far (p := ⟨gb137, 4, none⟩) (Kd.D_far (p := ⟨gb137, 3, none⟩) (Kd.D_far (p := ⟨gb137, 2, none⟩) (Kd.D_far (p := ⟨gb137, 1, none⟩) (Kd.D_far (p := ⟨gb137, 0, none⟩) (Kd.D_types HO165.out BK137.out (by decide)) (fun _ hk => hk.2) (.int .i64 t167)) (fun _ hk => hk.2) (.int .i64 t168)) (fun _ hk => hk.2) (.int .i64 t169)) (fun _ hk => hk.2) (.int .i64 t170)) (fun _ hk => hk.2) (.int .i64 t171)) (fun _ hk => hk.2) (.int .i64 t172)) (fun _ hk => hk.2) (.int .i64 t173)) (fun _ hk => hk.2) (.string t174)) (fun _ h_ => h_.1)))); (case side2 => exact (Kd.D_reads' HO165.out).2.1); rintro e w' ⟨rfl, ⟨nd, rfl⟩⟩; refine ⟨_, rfl, ?_⟩; have hnb156 := NB139_138.out; have hnc156 := NB138_139.out; have hnb157 := NB139_142.out; have hnc157 := NB142_139.out; have hcz158_0 : w154.cell? ⟨gb139, 0, none⟩ = some (.int .i64 x140000_36) := (blk_cell BK139.out 0).trans rfl; have hcz158_1 : w154.cell? ⟨gb139, 1, none⟩ = some (.int .i64 x140001_36) := (blk_cell BK139.out 1).trans rfl; have hcz158_2 : w154.cell? ⟨gb139, 2, none⟩ = some (.int .i64 x140002_36) := (blk_cell BK139.out 2).trans rfl; have hcz158_3 : w154.cell? ⟨gb139, 3, none⟩ = some (.int .i64 x140003_36) := (blk_cell BK139.out 3).trans rfl; have hcz158_4 : w154.cell? ⟨gb139, 4, none⟩ = some (.int .i64 x140004_36) := (blk_cell BK139.out 4).trans rfl; have hcz158_5 : w154.cell? ⟨gb139, 5, none⟩ = some (.int .i64 x140005_36) := (blk_cell BK139.out 5).trans rfl; have hcz158_6 : w154.cell? ⟨gb139, 6, none⟩ = some (.int .i64 x140006_36) := (blk_cell BK139.out 6).trans rfl; have hcz158_7 : w154.cell? ⟨gb139, 7, none⟩ = some (.string x140007_36) := (blk_cell BK139.out 7).trans rfl; have hfz158_0 := blk_frozen BK139.out 0; have hfz158_1 := blk_frozen BK139.out 1; have hfz158_2 := blk_frozen BK139.out 2; have hfz158_3 := blk_frozen BK139.out 3; have hfz158_4 := blk_frozen BK139.out 4; have hfz158_5 := blk_frozen BK139.out 5; have hfz158_6 := blk_frozen BK139.out 6; have hfz158_7 := blk_frozen BK139.out 7))
           refine bodyPost_ret (results_ct rfl _ _ gb139 27 #[.int .i64 1, .int .i64 t168, .int .i64 t175, .int .i64 t170, .int .i64 t171, .int .i64 t172, .int .i64 t173, .string t174] (0, 0) _ rfl (by (with_reducible repeat (first | refine blk_drewN ?_ _ | refine blk_drew ?_ | refine blk_alloc ?_ _)); refine blk_put (cs := #[.int .i64 1, .int .i64 t168, .int .i64 t175, .int .i64 t170, .int .i64 t171, .int .i64 t172, .int .i64 t173, .string x140007_36]) ?_ 7 _ rfl; (with_reducible repeat (first | refine blk_drewN ?_ _ | refine blk_drew ?_ | refine blk_alloc ?_ _)); refine blk_put (cs := #[.int .i64 1, .int .i64 t168, .int .i64 t175, .int .i64 t170, .int .i64 t171, .int .i64 t172, .int .i64 x140006_36, .string x140007_36]) ?_ 6 _ rfl; (with_reducible repeat (first | refine blk_drewN ?_ _ | refine blk_drew ?_ | refine blk_alloc ?_ _)); refine blk_put (cs := #[.int .i64 1, .int .i64 t168, .int .i64 t175, .int .i64 t170, .int .i64 t171, .int .i64 x140005_36, .int .i64 x140006_36, .string x140007_36]) ?_ 5 _ rfl; (with_reducible repeat (first | refine blk_drewN ?_ _ | refine blk_drew ?_ | refine blk_alloc ?_ _)); refine blk_put (cs := #[.int .i64 1, .int .i64 t168, .int .i64 t175, .int .i64 t170, .int .i64 x140004_36, .int .i64 x140005_36, .int .i64 x140006_36, .string x140007_36]) ?_ 4 _ rfl; (with_reducible repeat (first | refine blk_drewN ?_ _ | refine blk_drew ?_ | refine blk_alloc ?_ _)); refine blk_put (cs := #[.int .i64 1, .int .i64 t168, .int .i64 t175, .int .i64 x140003_36, .int .i64 x140004_36, .int .i64 x140005_36, .int .i64 x140006_36, .string x140007_36]) ?_ 3 _ rfl; (with_reducible repeat (first | refine blk_drewN ?_ _ | refine blk_drew ?_ | refine blk_alloc ?_ _)); refine blk_put (cs := #[.int .i64 1, .int .i64 t168, .int .i64 x140002_36, .int .i64 x140003_36, .int .i64 x140004_36, .int .i64 x140005_36, .int .i64 x140006_36, .string x140007_36]) ?_ 2 _ rfl; (with_reducible repeat (first | refine blk_drewN ?_ _ | refine blk_drew ?_ | refine blk_alloc ?_ _)); refine blk_put (cs := #[.int .i64 1, .int .i64 x140001_36, .int .i64 x140002_36, .int .i64 x140003_36, .int .i64 x140004_36, .int .i64 x140005_36, .int .i64 x140006_36, .string x140007_36]) ?_ 1 _ rfl; (with_reducible repeat (first | refine blk_drewN ?_ _ | refine blk_drew ?_ | refine blk_alloc ?_ _)); refine blk_put (cs := #[.int .i64 x140000_36, .int .i64 x140001_36, .int .i64 x140002_36, .int .i64 x140003_36, .int .i64 x140004_36, .int .i64 x140005_36, .int .i64 x140006_36, .string x140007_36]) ?_ 0 _ rfl; (with_reducible repeat (first | refine blk_drewN ?_ _ | refine blk_drew ?_ | refine blk_alloc ?_ _)); refine blk_far ?_ NB139_137.out _; (with_reducible repeat (first | refine blk_drewN ?_ _ | refine blk_drew ?_ | refine blk_alloc ?_ _)); refine blk_far ?_ NB139_137.out _; (with_reducible repeat (first | refine blk_drewN ?_ _ | refine blk_drew ?_ | refine blk_alloc ?_ _)); refine blk_far ?_ NB139_137.out _; (with_reducible repeat (first | refine blk_drewN ?_ _ | refine blk_drew ?_ | refine blk_alloc ?_ _)); refine blk_far ?_ NB139_137.out _; (with_reducible repeat (first | refine blk_drewN ?_ _ | refine blk_drew ?_ | refine blk_alloc ?_ _)); refine blk_far ?_ NB139_137.out _; (with_reducible repeat (first | refine blk_drewN ?_ _ | refine blk_drew ?_ | refine blk_alloc ?_ _)); refine blk_far ?_ NB139_137.out _; (with_reducible repeat (first | refine blk_drewN ?_ _ | refine blk_drew ?_ | refine blk_alloc ?_ _)); refine blk_far ?_ NB139_137.out _; (with_reducible repeat (first | refine blk_drewN ?_ _ | refine blk_drew ?_ | refine blk_alloc ?_ _)); refine blk_far ?_ NB139_137.out _; (with_reducible repeat (first | refine blk_drewN ?_ _ | refine blk_drew ?_ | refine blk_alloc ?_ _)); refine blk_far ?_ NB139_137.out _; (with_reducible repeat (first | refine blk_drewN ?_ _ | refine blk_drew ?_ | refine blk_alloc ?_ _)); refine blk_far ?_ NB139_137.out _; (with_reducible repeat (first | refine blk_drewN ?_ _ | refine blk_drew ?_ | refine blk_alloc ?_ _)); exact BK139.out) Try.underlying27 rfl (by kernel_rfl)) rfl ?_
           exact ⟨_, by first | rfl | (simp [errW_none, errW_some] <;> rfl) | (simp [*, errW_none, errW_some] <;> rfl), by first | exact Kd.R_nil _ _ _ _ _ | exact Kd.N_nil _ _ _ _ _ | exact Kd.V_nil _ _ _ _ _ | exact Kd.Q_nil _ _ _ _ _ | exact Kd.S_nil _ _ _ _ _, by repeat (first | (with_reducible first | exact HB.out | apply below_alloc | apply pw_below_drewN | apply below_drew1 | refine below_set ?_ GE136.out | refine below_set ?_ GE137.out | refine below_set ?_ GE138.out | refine below_set ?_ GE139.out | refine below_set ?_ GE142.out) | exact HB.out)⟩
          ·replace c128 := Bool.eq_false_iff.mpr c128
           subst c128
           have H1 : (some (a1_0, a2_1, a1_2, a1_3, a1_4, a1_5, a2_2, strOfNums t163, ([] : List (S32)))) = some (r1, r2, r3, r4, r5, r6, r7, r8, r9) := by rw [if_neg (show ¬ (false = true) by decide)] at H; exact H
           clear H
           have H := H1
           clear H1
           simp only [Option.some.injEq, Prod.mk.injEq] at H
           obtain ⟨rfl, rfl, rfl, rfl, rfl, rfl, rfl, rfl, rfl⟩ := H
           have hnb159 := NB137_136.out
           have hnc159 := NB136_137.out
           have hnb160 := NB137_138.out
           have hnc160 := NB138_137.out
           have hnb161 := NB137_139.out
           have hnc161 := NB139_137.out
           have hnb162 := NB137_142.out
           have hnc162 := NB142_137.out
           have hcz163_0 : wc.cell? ⟨gb137, 0, none⟩ = some (.int .i64 a1_0) := (blk_cell BK137.out 0).trans rfl
           have hcz163_1 : wc.cell? ⟨gb137, 1, none⟩ = some (.int .i64 a2_1) := (blk_cell BK137.out 1).trans rfl
           have hcz163_2 : wc.cell? ⟨gb137, 2, none⟩ = some (.int .i64 a1_2) := (blk_cell BK137.out 2).trans rfl
           have hcz163_3 : wc.cell? ⟨gb137, 3, none⟩ = some (.int .i64 a1_3) := (blk_cell BK137.out 3).trans rfl
           have hcz163_4 : wc.cell? ⟨gb137, 4, none⟩ = some (.int .i64 a1_4) := (blk_cell BK137.out 4).trans rfl
           have hcz163_5 : wc.cell? ⟨gb137, 5, none⟩ = some (.int .i64 a1_5) := (blk_cell BK137.out 5).trans rfl
           have hcz163_6 : wc.cell? ⟨gb137, 6, none⟩ = some (.int .i64 a2_2) := (blk_cell BK137.out 6).trans rfl
           have hcz163_7 : wc.cell? ⟨gb137, 7, none⟩ = some (.string a1_7) := (blk_cell BK137.out 7).trans rfl
           have hfz163_0 := blk_frozen BK137.out 0
           have hfz163_1 := blk_frozen BK137.out 1
           have hfz163_2 := blk_frozen BK137.out 2
           have hfz163_3 := blk_frozen BK137.out 3
           have hfz163_4 := blk_frozen BK137.out 4
           have hfz163_5 := blk_frozen BK137.out 5
           have hfz163_6 := blk_frozen BK137.out 6
           have hfz163_7 := blk_frozen BK137.out 7
           try go_wp2
           have n0_ := Aside0.mk (blk_drew BK136.out)
           have n1_ := Aside0.mk (blk_drew BK137.out)
           have n2_ := Aside0.mk (blk_drew BK138.out)
           have n3_ := Aside0.mk (blk_drew BK139.out)
           have n4_ := Aside0.mk (blk_drew BK142.out)
           have n5_ := Aside0.mk (below_drew1 HB.out)
           clear BK136
           clear BK137
           clear BK138
           clear BK139
           clear BK142
           clear HB
           have BK136 := n0_
           have BK137 := n1_
           have BK138 := n2_
           have BK139 := n3_
           have BK142 := n4_
           have HB := n5_
           clear n0_ n1_ n2_ n3_ n4_ n5_
           refine start_ (n := 12) (S := fun w' => w'.cell? ⟨gb137, 0, none⟩ = some (.int .i64 a1_0) ∧ w'.cell? ⟨gb137, 1, none⟩ = some (.int .i64 a2_1) ∧ w'.cell? ⟨gb137, 2, none⟩ = some (.int .i64 a1_2) ∧ w'.cell? ⟨gb137, 3, none⟩ = some (.int .i64 a1_3) ∧ w'.cell? ⟨gb137, 4, none⟩ = some (.int .i64 a1_4) ∧ w'.cell? ⟨gb137, 5, none⟩ = some (.int .i64 a1_5) ∧ w'.cell? ⟨gb137, 6, none⟩ = some (.int .i64 a2_2) ∧ w'.cell? ⟨gb137, 7, none⟩ = some (.string a1_7) ∧ w'.cell? ⟨gb138, 0, none⟩ = some (.int .i64 a2_0) ∧ w'.cell? ⟨gb138, 1, none⟩ = some (.int .i64 a2_1) ∧ w'.cell? ⟨gb138, 2, none⟩ = some (.int .i64 a2_2) ∧ w'.cell? ⟨gb138, 3, none⟩ = some (.int .i64 a2_3) ∧ w'.cell? ⟨gb138, 4, none⟩ = some (.int .i64 a2_4) ∧ w'.cell? ⟨gb138, 5, none⟩ = some (.string a2_5) ∧ w'.cell? ⟨gb138, 6, none⟩ = some (.int .i64 a2_6) ∧ w'.cell? ⟨gb136, 0, none⟩ = some (.string a0_0) ∧ w'.cell? ⟨gb136, 1, none⟩ = some (.int .i64 a0_1) ∧ w'.cell? ⟨gb136, 2, none⟩ = some (.bool a0_2)) (ds := []) #[false, false, false, false, false, false, false, false, false, false, false, false] (by kernel_rfl) rfl rfl ⟨(blk_cell BK137.out 0).trans rfl, (blk_cell BK137.out 1).trans rfl, (blk_cell BK137.out 2).trans rfl, (blk_cell BK137.out 3).trans rfl, (blk_cell BK137.out 4).trans rfl, (blk_cell BK137.out 5).trans rfl, (blk_cell BK137.out 6).trans rfl, (blk_cell BK137.out 7).trans rfl, (blk_cell BK138.out 0).trans rfl, (blk_cell BK138.out 1).trans rfl, (blk_cell BK138.out 2).trans rfl, (blk_cell BK138.out 3).trans rfl, (blk_cell BK138.out 4).trans rfl, (blk_cell BK138.out 5).trans rfl, (blk_cell BK138.out 6).trans rfl, (blk_cell BK136.out 0).trans rfl, (blk_cell BK136.out 1).trans rfl, (blk_cell BK136.out 2).trans rfl⟩ (fun hHeld => ?_); refine with_tabW sync_Step.tab8 sync_Step.bits8 (fun HT_ HW_ => ?_)
           generalize wc.drew = w164 at BK136 BK137 BK138 BK139 BK142 HB hHeld ⊢
           refine pstep 0 (some 41) #[true, false, false, false, false, false, false, false, false, false, false, false] HT_.out ?_
           refine pstep 6 (some 47) #[true, false, false, false, false, false, true, false, false, false, false, false] HT_.out ?_
           refine take_ (i := 1) (N := some 42) (v := ?_) (a' := ?_) #[true, true, false, false, false, false, true, false, false, false, false, false] rfl rfl (take_ofW HT_.out HW_.out (by kernel_rfl)) (fun _ _ _ h => h) (Or.inl ⟨by rfl, ?_⟩) hHeld ?_ ?_
           rotate_left
           ·rintro w' ⟨s0, s1, s2, s3, s4, s5, s6, s7, s8, s9, s10, s11, s12, s13, s14, s15, s16, s17⟩
            go_simp
            with_reducible rfl
           rotate_left
           ·simp only [Act.put, nrm]
            rfl
           refine take_ (i := 3) (N := some 44) (v := ?_) (a' := ?_) #[true, true, false, true, false, false, true, false, false, false, false, false] rfl rfl (take_ofW HT_.out HW_.out (by kernel_rfl)) (fun _ _ _ h => h) (Or.inl ⟨by rfl, ?_⟩) hHeld ?_ ?_
           rotate_left
           ·rintro w' ⟨s0, s1, s2, s3, s4, s5, s6, s7, s8, s9, s10, s11, s12, s13, s14, s15, s16, s17⟩
            go_simp
            with_reducible rfl
           rotate_left
           ·simp only [Act.put, nrm]
            rfl
           refine take_ (i := 7) (N := some 48) (v := ?_) (a' := ?_) #[true, true, false, true, false, false, true, true, false, false, false, false] rfl rfl (take_ofW HT_.out HW_.out (by kernel_rfl)) (fun _ _ _ h => h) (Or.inl ⟨by rfl, ?_⟩) hHeld ?_ ?_
           rotate_left
           ·rintro w' ⟨s0, s1, s2, s3, s4, s5, s6, s7, s8, s9, s10, s11, s12, s13, s14, s15, s16, s17⟩
            go_simp
            with_reducible rfl
           rotate_left
           ·simp only [Act.put, nrm]
            rfl
           refine pstep 8 (some 49) #[true, true, false, true, false, false, true, true, true, false, false, false] HT_.out ?_
           refine pstep 9 (some 50) #[true, true, false, true, false, false, true, true, true, true, false, false] HT_.out ?_
           refine join_ (σ := Value × Value) 3 #[true, true, true, true, true, false, true, true, true, true, false, false] (fun s_ => [(43, s_.1), (45, s_.2)]) (fun s_ w' => (w'.cell? ⟨gb137, 0, none⟩ = some (.int .i64 a1_0) ∧ w'.cell? ⟨gb137, 1, none⟩ = some (.int .i64 a2_1) ∧ w'.cell? ⟨gb137, 2, none⟩ = some (.int .i64 a1_2) ∧ w'.cell? ⟨gb137, 3, none⟩ = some (.int .i64 a1_3) ∧ w'.cell? ⟨gb137, 4, none⟩ = some (.int .i64 a1_4) ∧ w'.cell? ⟨gb137, 5, none⟩ = some (.int .i64 a1_5) ∧ w'.cell? ⟨gb137, 6, none⟩ = some (.int .i64 a2_2) ∧ w'.cell? ⟨gb137, 7, none⟩ = some (.string a1_7) ∧ w'.cell? ⟨gb138, 0, none⟩ = some (.int .i64 a2_0) ∧ w'.cell? ⟨gb138, 1, none⟩ = some (.int .i64 a2_1) ∧ w'.cell? ⟨gb138, 2, none⟩ = some (.int .i64 a2_2) ∧ w'.cell? ⟨gb138, 3, none⟩ = some (.int .i64 a2_3) ∧ w'.cell? ⟨gb138, 4, none⟩ = some (.int .i64 a2_4) ∧ w'.cell? ⟨gb138, 5, none⟩ = some (.string a2_5) ∧ w'.cell? ⟨gb138, 6, none⟩ = some (.int .i64 a2_6) ∧ w'.cell? ⟨gb136, 0, none⟩ = some (.string a0_0) ∧ w'.cell? ⟨gb136, 1, none⟩ = some (.int .i64 a0_1) ∧ w'.cell? ⟨gb136, 2, none⟩ = some (.bool a0_2)) ∧ (Kd.B (Kd.int .u8) 5 w' w.heap.size (fun k_ => some k_ ≠ (s_.2 : Value).ownBlock) s_.1 y154) ∧ (Kd.R (Kd.int .u8) 5 w' w.heap.size (fun k_ => some k_ ≠ (s_.1 : Value).ownBlock) s_.2 t157) ∧ (w'.heap[gb136]? = some (.cells #[.string a0_0, .int .i64 a0_1, .bool a0_2] 23 (0, 0))) ∧ (w'.heap[gb137]? = some (.cells #[.int .i64 a1_0, .int .i64 a2_1, .int .i64 a1_2, .int .i64 a1_3, .int .i64 a1_4, .int .i64 a1_5, .int .i64 a2_2, .string a1_7] 27 (0, 0))) ∧ (w'.heap[gb138]? = some (.cells #[.int .i64 a2_0, .int .i64 a2_1, .int .i64 a2_2, .int .i64 a2_3, .int .i64 a2_4, .string a2_5, .int .i64 a2_6] 32 (0, 0))) ∧ (w'.heap[gb139]? = some (.cells #[.int .i64 x140000_36, .int .i64 x140001_36, .int .i64 x140002_36, .int .i64 x140003_36, .int .i64 x140004_36, .int .i64 x140005_36, .int .i64 x140006_36, .string x140007_36] 27 (0, 0))) ∧ (w'.heap[gb142]? = some (.cells #[.int .i64 a1_0, .int .i64 a1_1, .int .i64 a1_2, .int .i64 a1_3, .int .i64 a1_4, .int .i64 a1_5, .int .i64 a1_6, .string a1_7] 27 (0, 0))) ∧ (Below w.heap.size w w')) ?_ ?_
           rotate_left
           ·intro hCont
            refine two_ (i := 2) (j := 4) (Ni := some 43) (Nj := some 45) #[true, true, true, true, false, false, true, true, true, true, false, false] #[true, true, false, true, true, false, true, true, true, true, false, false] rfl rfl rfl rfl (two_of HT_.out (by kernel_rfl)) (by decide) (by decide) (fun K hK => ?_) (fun K hK => ?_)
            ·skip
             refine Kd.B_conv_step _ 5 (by rfl) (N := 43) rfl 9 53 _ rfl a1_7 rfl Try.underlying9 Try.underlying53 Try.underlying5 (of_decide_eq_true (by first | (with_reducible assumption) | assumption)) (ok := fun _ => True) trivial (Below.refl _ _) (Nat.le_refl _) ?_
             intro v155 w165 ho166 hb hg_ hnew_
             clear hg_ hnew_
             (first | rw [← Ny154.out] at ho166 | (simp only [Int.reduceToNat] at ho166; rw [← Ny154.out] at ho166))
             have n0_ := Aside0.mk (Kd.B_lower ho166 (below_size (hbw HB.out)))
             have n1_ := Aside0.mk (blkb BK136.out hb)
             have n2_ := Aside0.mk (blkb BK137.out hb)
             have n3_ := Aside0.mk (blkb BK138.out hb)
             have n4_ := Aside0.mk (blkb BK139.out hb)
             have n5_ := Aside0.mk (blkb BK142.out hb)
             have n6_ := Aside0.mk (below_step (hbw HB.out) hb)
             clear BK136
             clear BK137
             clear BK138
             clear BK139
             clear BK142
             clear HB
             have HO156 := n0_
             have BK136 := n1_
             have BK137 := n2_
             have BK138 := n3_
             have BK139 := n4_
             have BK142 := n5_
             have HB := n6_
             clear n0_ n1_ n2_ n3_ n4_ n5_ n6_
             clear hb ho166
             refine hK.out _ _ ⟨(blk_cell BK137.out 0).trans rfl, (blk_cell BK137.out 1).trans rfl, (blk_cell BK137.out 2).trans rfl, (blk_cell BK137.out 3).trans rfl, (blk_cell BK137.out 4).trans rfl, (blk_cell BK137.out 5).trans rfl, (blk_cell BK137.out 6).trans rfl, (blk_cell BK137.out 7).trans rfl, (blk_cell BK138.out 0).trans rfl, (blk_cell BK138.out 1).trans rfl, (blk_cell BK138.out 2).trans rfl, (blk_cell BK138.out 3).trans rfl, (blk_cell BK138.out 4).trans rfl, (blk_cell BK138.out 5).trans rfl, (blk_cell BK138.out 6).trans rfl, (blk_cell BK136.out 0).trans rfl, (blk_cell BK136.out 1).trans rfl, (blk_cell BK136.out 2).trans rfl⟩ (fun hHeld => ?_)
             clear hK K
             refine norm_ (a' := ?_) ?_ ?_
             rotate_left
             ·show Act.put _ (some 43) _ = _
              simp only [Act.put, nrm]
              rfl
             refine one_ (i := 4) (N := some 45) #[true, true, true, true, true, false, true, true, true, true, false, false] rfl rfl (one_of HT_.out (by kernel_rfl)) (by decide) (fun K hK => ?_)
             refine goes_ Try.func30 (by kernel_rfl) rfl #[.agg #[.int .i64 a2_0, .int .i64 a2_1, .int .i64 a2_2, .int .i64 a2_3, .int .i64 a2_4, .string a2_5, .int .i64 a2_6]] (by rfl) rfl rfl (by (try simp only [List.map_toArray, List.map_cons, List.map_nil]); first | done | rfl | (simp only [List.length_drop, List.length_take]; rfl)) ?_
             with_reducible refine (sync_record.calls kj36 a2_0 a2_1 a2_2 a2_3 a2_4 a2_5 a2_6 t157 _ A124.out).mono ?_
             rintro e w167 ⟨v158, rfl, ho0, hb⟩
             refine ⟨_, rfl, ?_⟩
             have n0_ := Aside0.mk (Kd.B_elder' (by (with_reducible repeat (first | apply Kd.B_alloc | apply Kd.B_drewN | apply Kd.B_drew)); exact HO156.out) (Kd.R_base ho0) hb)
             have n1_ := Aside0.mk (Kd.R_lower (Kd.R_new' ho0 (Kd.B_lt (by (with_reducible repeat (first | apply Kd.B_alloc | apply Kd.B_drewN | apply Kd.B_drew)); exact HO156.out))) (below_size (hbw HB.out)))
             have n2_ := Aside0.mk (blkb BK136.out hb)
             have n3_ := Aside0.mk (blkb BK137.out hb)
             have n4_ := Aside0.mk (blkb BK138.out hb)
             have n5_ := Aside0.mk (blkb BK139.out hb)
             have n6_ := Aside0.mk (blkb BK142.out hb)
             have n7_ := Aside0.mk (below_step (hbw HB.out) hb)
             clear HO156
             clear BK136
             clear BK137
             clear BK138
             clear BK139
             clear BK142
             clear HB
             have HO156 := n0_
             have HO159 := n1_
             have BK136 := n2_
             have BK137 := n3_
             have BK138 := n4_
             have BK139 := n5_
             have BK142 := n6_
             have HB := n7_
             clear n0_ n1_ n2_ n3_ n4_ n5_ n6_ n7_
             (try clear hb)
             (try clear hb2)
             (try clear hk)
             (try clear hi)
             (try clear ho0)
             refine hK.out _ _ ⟨(blk_cell BK137.out 0).trans rfl, (blk_cell BK137.out 1).trans rfl, (blk_cell BK137.out 2).trans rfl, (blk_cell BK137.out 3).trans rfl, (blk_cell BK137.out 4).trans rfl, (blk_cell BK137.out 5).trans rfl, (blk_cell BK137.out 6).trans rfl, (blk_cell BK137.out 7).trans rfl, (blk_cell BK138.out 0).trans rfl, (blk_cell BK138.out 1).trans rfl, (blk_cell BK138.out 2).trans rfl, (blk_cell BK138.out 3).trans rfl, (blk_cell BK138.out 4).trans rfl, (blk_cell BK138.out 5).trans rfl, (blk_cell BK138.out 6).trans rfl, (blk_cell BK136.out 0).trans rfl, (blk_cell BK136.out 1).trans rfl, (blk_cell BK136.out 2).trans rfl⟩ (fun hHeld => ?_)
             clear hK K
             refine norm_ (a' := ?_) ?_ ?_
             rotate_left
             ·show Act.put _ (some 45) _ = _
              simp only [Act.put, nrm]
              rfl
             exact norm_ (by simp only [putAll, Act.put, List.setIfInBounds_toArray, List.set_cons_zero, List.set_cons_succ]) (hCont (v155, v158) _ ⟨hHeld, (by (with_reducible repeat (first | apply Kd.B_alloc | apply Kd.B_drewN | apply Kd.B_drew)); exact Kd.B_mono HO156.out (fun _ hk => hk.2)), (by (with_reducible repeat (first | apply Kd.R_alloc | apply Kd.R_drewN | apply Kd.R_drew)); exact Kd.R_mono HO159.out (fun _ hk => hk.2)), (bkw BK136.out), (bkw BK137.out), (bkw BK138.out), (bkw BK139.out), (bkw BK142.out), (hbw HB.out)⟩)
            ·skip
             refine goes_ Try.func30 (by kernel_rfl) rfl #[.agg #[.int .i64 a2_0, .int .i64 a2_1, .int .i64 a2_2, .int .i64 a2_3, .int .i64 a2_4, .string a2_5, .int .i64 a2_6]] (by rfl) rfl rfl (by (try simp only [List.map_toArray, List.map_cons, List.map_nil]); first | done | rfl | (simp only [List.length_drop, List.length_take]; rfl)) ?_
             with_reducible refine (sync_record.calls kj36 a2_0 a2_1 a2_2 a2_3 a2_4 a2_5 a2_6 t157 _ A124.out).mono ?_
             rintro e w165 ⟨v158, rfl, ho0, hb⟩
             refine ⟨_, rfl, ?_⟩
             have n0_ := Aside0.mk (Kd.R_lower ho0 (below_size (hbw HB.out)))
             have n1_ := Aside0.mk (blkb BK136.out hb)
             have n2_ := Aside0.mk (blkb BK137.out hb)
             have n3_ := Aside0.mk (blkb BK138.out hb)
             have n4_ := Aside0.mk (blkb BK139.out hb)
             have n5_ := Aside0.mk (blkb BK142.out hb)
             have n6_ := Aside0.mk (below_step (hbw HB.out) hb)
             clear BK136
             clear BK137
             clear BK138
             clear BK139
             clear BK142
             clear HB
             have HO159 := n0_
             have BK136 := n1_
             have BK137 := n2_
             have BK138 := n3_
             have BK139 := n4_
             have BK142 := n5_
             have HB := n6_
             clear n0_ n1_ n2_ n3_ n4_ n5_ n6_
             (try clear hb)
             (try clear hb2)
             (try clear hk)
             (try clear hi)
             (try clear ho0)
             refine hK.out _ _ ⟨(blk_cell BK137.out 0).trans rfl, (blk_cell BK137.out 1).trans rfl, (blk_cell BK137.out 2).trans rfl, (blk_cell BK137.out 3).trans rfl, (blk_cell BK137.out 4).trans rfl, (blk_cell BK137.out 5).trans rfl, (blk_cell BK137.out 6).trans rfl, (blk_cell BK137.out 7).trans rfl, (blk_cell BK138.out 0).trans rfl, (blk_cell BK138.out 1).trans rfl, (blk_cell BK138.out 2).trans rfl, (blk_cell BK138.out 3).trans rfl, (blk_cell BK138.out 4).trans rfl, (blk_cell BK138.out 5).trans rfl, (blk_cell BK138.out 6).trans rfl, (blk_cell BK136.out 0).trans rfl, (blk_cell BK136.out 1).trans rfl, (blk_cell BK136.out 2).trans rfl⟩ (fun hHeld => ?_)
             clear hK K
             refine norm_ (a' := ?_) ?_ ?_
             rotate_left
             ·show Act.put _ (some 45) _ = _
              simp only [Act.put, nrm]
              rfl
             refine one_ (i := 2) (N := some 43) #[true, true, true, true, true, false, true, true, true, true, false, false] rfl rfl (one_of HT_.out (by kernel_rfl)) (by decide) (fun K hK => ?_)
             refine Kd.B_conv_step _ 5 (by rfl) (N := 43) rfl 9 53 _ rfl a1_7 rfl Try.underlying9 Try.underlying53 Try.underlying5 (of_decide_eq_true (by first | (with_reducible assumption) | assumption)) (ok := fun _ => True) trivial (Below.refl _ _) (Nat.le_refl _) ?_
             intro v155 w166 ho167 hb hg_ hnew_
             clear hg_ hnew_
             (first | rw [← Ny154.out] at ho167 | (simp only [Int.reduceToNat] at ho167; rw [← Ny154.out] at ho167))
             have n0_ := Aside0.mk (Kd.R_elder' (rkw HO159.out) (Kd.B_base ho167) hb)
             have n1_ := Aside0.mk (Kd.B_lower (Kd.B_new' ho167 (Kd.R_lt (rkw HO159.out))) (below_size (hbw HB.out)))
             have n2_ := Aside0.mk (blkb BK136.out hb)
             have n3_ := Aside0.mk (blkb BK137.out hb)
             have n4_ := Aside0.mk (blkb BK138.out hb)
             have n5_ := Aside0.mk (blkb BK139.out hb)
             have n6_ := Aside0.mk (blkb BK142.out hb)
             have n7_ := Aside0.mk (below_step (hbw HB.out) hb)
             clear HO159
             clear BK136
             clear BK137
             clear BK138
             clear BK139
             clear BK142
             clear HB
             have HO159 := n0_
             have HO156 := n1_
             have BK136 := n2_
             have BK137 := n3_
             have BK138 := n4_
             have BK139 := n5_
             have BK142 := n6_
             have HB := n7_
             clear n0_ n1_ n2_ n3_ n4_ n5_ n6_ n7_
             clear hb ho167
             refine hK.out _ _ ⟨(blk_cell BK137.out 0).trans rfl, (blk_cell BK137.out 1).trans rfl, (blk_cell BK137.out 2).trans rfl, (blk_cell BK137.out 3).trans rfl, (blk_cell BK137.out 4).trans rfl, (blk_cell BK137.out 5).trans rfl, (blk_cell BK137.out 6).trans rfl, (blk_cell BK137.out 7).trans rfl, (blk_cell BK138.out 0).trans rfl, (blk_cell BK138.out 1).trans rfl, (blk_cell BK138.out 2).trans rfl, (blk_cell BK138.out 3).trans rfl, (blk_cell BK138.out 4).trans rfl, (blk_cell BK138.out 5).trans rfl, (blk_cell BK138.out 6).trans rfl, (blk_cell BK136.out 0).trans rfl, (blk_cell BK136.out 1).trans rfl, (blk_cell BK136.out 2).trans rfl⟩ (fun hHeld => ?_)
             clear hK K
             refine norm_ (a' := ?_) ?_ ?_
             rotate_left
             ·show Act.put _ (some 43) _ = _
              simp only [Act.put, nrm]
              rfl
             exact norm_ (by simp only [putAll, Act.put, List.setIfInBounds_toArray, List.set_cons_zero, List.set_cons_succ]) (hCont (v155, v158) _ ⟨hHeld, (by (with_reducible repeat (first | apply Kd.B_alloc | apply Kd.B_drewN | apply Kd.B_drew)); exact Kd.B_mono HO156.out (fun _ hk => hk.2)), (by (with_reducible repeat (first | apply Kd.R_alloc | apply Kd.R_drewN | apply Kd.R_drew)); exact Kd.R_mono HO159.out (fun _ hk => hk.2)), (bkw BK136.out), (bkw BK137.out), (bkw BK138.out), (bkw BK139.out), (bkw BK142.out), (hbw HB.out)⟩)
           rintro ⟨v155, v158⟩ w168 ⟨hS_, h0_, h1_, h2_, h3_, h4_, h5_, h6_, h7_⟩
           have n0_ : Aside0 (Kd.B (Kd.int .u8) 5 w168 w.heap.size (fun k_ => some k_ ≠ (v158 : Value).ownBlock) v155 y154) := ⟨h0_⟩
           have n1_ : Aside0 (Kd.R (Kd.int .u8) 5 w168 w.heap.size (fun k_ => some k_ ≠ (v155 : Value).ownBlock) v158 t157) := ⟨h1_⟩
           have n2_ : Aside0 (w168.heap[gb136]? = some (.cells #[.string a0_0, .int .i64 a0_1, .bool a0_2] 23 (0, 0))) := ⟨h2_⟩
           have n3_ : Aside0 (w168.heap[gb137]? = some (.cells #[.int .i64 a1_0, .int .i64 a2_1, .int .i64 a1_2, .int .i64 a1_3, .int .i64 a1_4, .int .i64 a1_5, .int .i64 a2_2, .string a1_7] 27 (0, 0))) := ⟨h3_⟩
           have n4_ : Aside0 (w168.heap[gb138]? = some (.cells #[.int .i64 a2_0, .int .i64 a2_1, .int .i64 a2_2, .int .i64 a2_3, .int .i64 a2_4, .string a2_5, .int .i64 a2_6] 32 (0, 0))) := ⟨h4_⟩
           have n5_ : Aside0 (w168.heap[gb139]? = some (.cells #[.int .i64 x140000_36, .int .i64 x140001_36, .int .i64 x140002_36, .int .i64 x140003_36, .int .i64 x140004_36, .int .i64 x140005_36, .int .i64 x140006_36, .string x140007_36] 27 (0, 0))) := ⟨h5_⟩
           have n6_ : Aside0 (w168.heap[gb142]? = some (.cells #[.int .i64 a1_0, .int .i64 a1_1, .int .i64 a1_2, .int .i64 a1_3, .int .i64 a1_4, .int .i64 a1_5, .int .i64 a1_6, .string a1_7] 27 (0, 0))) := ⟨h6_⟩
           have n7_ : Aside0 (Below w.heap.size w w168) := ⟨h7_⟩
           clear BK136
           clear BK137
           clear BK138
           clear BK139
           clear BK142
           clear HB
           clear h0_ h1_ h2_ h3_ h4_ h5_ h6_ h7_
           have HO156 := n0_
           have HO159 := n1_
           have BK136 := n2_
           have BK137 := n3_
           have BK138 := n4_
           have BK139 := n5_
           have BK142 := n6_
           have HB := n7_
           clear n0_ n1_ n2_ n3_ n4_ n5_ n6_ n7_
           have hHeld : w168.cell? ⟨gb137, 0, none⟩ = some (.int .i64 a1_0) ∧ w168.cell? ⟨gb137, 1, none⟩ = some (.int .i64 a2_1) ∧ w168.cell? ⟨gb137, 2, none⟩ = some (.int .i64 a1_2) ∧ w168.cell? ⟨gb137, 3, none⟩ = some (.int .i64 a1_3) ∧ w168.cell? ⟨gb137, 4, none⟩ = some (.int .i64 a1_4) ∧ w168.cell? ⟨gb137, 5, none⟩ = some (.int .i64 a1_5) ∧ w168.cell? ⟨gb137, 6, none⟩ = some (.int .i64 a2_2) ∧ w168.cell? ⟨gb137, 7, none⟩ = some (.string a1_7) ∧ w168.cell? ⟨gb138, 0, none⟩ = some (.int .i64 a2_0) ∧ w168.cell? ⟨gb138, 1, none⟩ = some (.int .i64 a2_1) ∧ w168.cell? ⟨gb138, 2, none⟩ = some (.int .i64 a2_2) ∧ w168.cell? ⟨gb138, 3, none⟩ = some (.int .i64 a2_3) ∧ w168.cell? ⟨gb138, 4, none⟩ = some (.int .i64 a2_4) ∧ w168.cell? ⟨gb138, 5, none⟩ = some (.string a2_5) ∧ w168.cell? ⟨gb138, 6, none⟩ = some (.int .i64 a2_6) ∧ w168.cell? ⟨gb136, 0, none⟩ = some (.string a0_0) ∧ w168.cell? ⟨gb136, 1, none⟩ = some (.int .i64 a0_1) ∧ w168.cell? ⟨gb136, 2, none⟩ = some (.bool a0_2) := hS_
           obtain ⟨Ao170, co170, eo170⟩ := Kd.R_slice HO159.out
           (first | subst eo170 | (injection eo170 with f1_ f2_ f3_; have f4_ := f1_.symm; have f5_ := f3_.symm; clear f1_ f2_ f3_; subst f4_; subst f5_))
           refine norm_ (a' := ?_) ?_ ?_
           rotate_left
           ·simp only [putAll, Act.put, List.setIfInBounds_toArray, List.set_cons_zero, List.set_cons_succ]
            rfl
           refine one_ (i := 5) (N := some 46) #[true, true, true, true, true, true, true, true, true, true, false, false] rfl rfl (one_of HT_.out (by kernel_rfl)) (by decide) (fun K hK => ?_)
           refine Kd.B_append_rows_step (Kd.int .u8) (w0 := w) w.heap.size (by rfl) (.tmp 43) (.tmp 45) 53 5 (.int .u8 0) 1 rfl Try.underlying53 info5 rfl (by decide) (by omega) v155 y154 t157 _ _ _ (fun k_ => some k_ ≠ (.slice Ao170 t157.length co170 : Value).ownBlock) (fun _ => False) rfl rfl ?aO ?aR (fun _ _ h => h) (fun _ h => h.elim) ?aF ?aB ?aS ?aL ?_
           (case aR => repeat (first | exact (Kd.R_reads' HO159.out).2.2 | (with_reducible refine Kd.C_alloc ?_ _) | (with_reducible refine Kd.C_drewN ?_ _) | (with_reducible refine Kd.C_drew ?_)))
           (case aB => exact (hbw HB.out))
           (case aF => exact (fun k_ hk => Kd.fresh' (Kd.R_lt (rkw HO159.out)) k_ hk))
           (case aO => exact (by (with_reducible repeat (first | apply Kd.B_alloc | apply Kd.B_drewN | apply Kd.B_drew)); exact HO156.out))
           (case aS => exact (below_size (hbw HB.out)))
           (case aL => have := LMc125.out; omega)
           intro v161 w169 ho hb hg hat
           rw [← Ny160.out] at ho
           have n0_ := Aside0.mk (blkg BK136.out hg (Kd.B_ne HO156.out BK136.out (by decide)))
           have n1_ := Aside0.mk (blkg BK137.out hg (Kd.B_ne HO156.out BK137.out (by decide)))
           have n2_ := Aside0.mk (blkg BK138.out hg (Kd.B_ne HO156.out BK138.out (by decide)))
           have n3_ := Aside0.mk (blkg BK139.out hg (Kd.B_ne HO156.out BK139.out (by decide)))
           have n4_ := Aside0.mk (blkg BK142.out hg (Kd.B_ne HO156.out BK142.out (by decide)))
           have n5_ := Aside0.mk (Kd.R_after (ok := (fun _ => True)) (by (with_reducible repeat (first | apply Kd.R_alloc | apply Kd.R_drewN | apply Kd.R_drew)); exact Kd.R_mono HO159.out (fun _ hk => ⟨trivial, hk⟩)) hg hat)
           have n6_ := Aside0.mk (hb)
           have n7_ := Aside0.mk (ho)
           clear BK136
           clear BK137
           clear BK138
           clear BK139
           clear BK142
           clear HO159
           clear HB
           clear HO156
           have BK136 := n0_
           have BK137 := n1_
           have BK138 := n2_
           have BK139 := n3_
           have BK142 := n4_
           have HO159 := n5_
           have HB := n6_
           have HO162 := n7_
           clear n0_ n1_ n2_ n3_ n4_ n5_ n6_ n7_
           clear ho hb hg hat
           obtain ⟨Ao171, co171, eo171⟩ := Kd.B_slice HO162.out
           (first | subst eo171 | (injection eo171 with f1_ f2_ f3_; have f4_ := f1_.symm; have f5_ := f3_.symm; clear f1_ f2_ f3_; subst f4_; subst f5_))
           refine hK.out _ _ ⟨(blk_cell BK137.out 0).trans rfl, (blk_cell BK137.out 1).trans rfl, (blk_cell BK137.out 2).trans rfl, (blk_cell BK137.out 3).trans rfl, (blk_cell BK137.out 4).trans rfl, (blk_cell BK137.out 5).trans rfl, (blk_cell BK137.out 6).trans rfl, (blk_cell BK137.out 7).trans rfl, (blk_cell BK138.out 0).trans rfl, (blk_cell BK138.out 1).trans rfl, (blk_cell BK138.out 2).trans rfl, (blk_cell BK138.out 3).trans rfl, (blk_cell BK138.out 4).trans rfl, (blk_cell BK138.out 5).trans rfl, (blk_cell BK138.out 6).trans rfl, (blk_cell BK136.out 0).trans rfl, (blk_cell BK136.out 1).trans rfl, (blk_cell BK136.out 2).trans rfl⟩ (fun hHeld => ?_)
           clear hK K
           refine norm_ (a' := ?_) ?_ ?_
           rotate_left
           ·show Act.put _ (some 46) _ = _
            simp only [Act.put, nrm]
            rfl
           refine one_ (i := 10) (N := some 51) #[true, true, true, true, true, true, true, true, true, true, true, false] rfl rfl (one_of HT_.out (by kernel_rfl)) (by decide) (fun K hK => ?_)
           refine goes_ Try.func29 (by kernel_rfl) rfl #[.slice Ao171 y160.length co171, .int .i64 (wrap64 (9 * (a0_0.size : Int)))] (by rfl) rfl rfl (by (try simp only [List.map_toArray, List.map_cons, List.map_nil]); first | done | rfl | (simp only [List.length_drop, List.length_take]; rfl)) ?_
           with_reducible refine (sync_last_byte.callsB (fun k_ => some k_ = (.slice Ao171 y160.length co171 : Value).ownBlock) (.slice Ao171 y160.length co171) y160 (wrap64 (9 * (a0_0.size : Int))) t163 w _ ?side1 ?side2 A126.out).mono ?_
           (case side1 => repeat (first | (with_reducible first | exact HB.out | apply below_alloc | apply pw_below_drewN | apply below_drew1 | refine below_set ?_ GE136.out | refine below_set ?_ GE137.out | refine below_set ?_ GE138.out | refine below_set ?_ GE139.out | refine below_set ?_ GE142.out) | exact HB.out))
           (case side2 => exact Kd.B_tight rfl HO162.out)
           rintro e w172 ⟨v164, rfl, ho0, hb, hkp⟩
           refine ⟨_, rfl, ?_⟩
           have n0_ := Aside0.mk (blk_kept (bkw BK136.out) hkp (fun hs_ => (fun e_ => (Kd.B_ne HO162.out BK136.out (by decide)) e_) hs_))
           have n1_ := Aside0.mk (blk_kept (bkw BK137.out) hkp (fun hs_ => (fun e_ => (Kd.B_ne HO162.out BK137.out (by decide)) e_) hs_))
           have n2_ := Aside0.mk (blk_kept (bkw BK138.out) hkp (fun hs_ => (fun e_ => (Kd.B_ne HO162.out BK138.out (by decide)) e_) hs_))
           have n3_ := Aside0.mk (blk_kept (bkw BK139.out) hkp (fun hs_ => (fun e_ => (Kd.B_ne HO162.out BK139.out (by decide)) e_) hs_))
           have n4_ := Aside0.mk (blk_kept (bkw BK142.out) hkp (fun hs_ => (fun e_ => (Kd.B_ne HO162.out BK142.out (by decide)) e_) hs_))
           have n5_ := Aside0.mk (Kd.R_mono (ok' := fun k_ => some k_ ≠ (v164 : Value).ownBlock) (Kd.R_keptB (HO159.out) hkp (fun k_ hk_ hs_ => (hk_.2) hs_)) (fun k_ hk_ => fun e_ => Or.elim (ho0.1 k_ e_.symm) (fun hs_ => hk_.2.1 hs_) (fun hn_ => Nat.not_le.2 hk_.2.2 hn_)))
           have n6_ := Aside0.mk (Kd.D_mono (ok' := fun k_ => some k_ ≠ (.slice Ao170 t157.length co170 : Value).ownBlock) ho0 (fun k_ hk_ => Or.elim hk_ (fun hs_ => fun e_ => (((HO159.out).1 k_ e_.symm).2) hs_) (fun hn_ => (Kd.fresh' (Kd.R_lt (rkw HO159.out)) k_ hn_))))
           have n7_ := Aside0.mk (hb)
           clear BK136
           clear BK137
           clear BK138
           clear BK139
           clear BK142
           clear HO159
           clear HB
           clear HO162
           have BK136 := n0_
           have BK137 := n1_
           have BK138 := n2_
           have BK139 := n3_
           have BK142 := n4_
           have HO159 := n5_
           have HO165 := n6_
           have HB := n7_
           clear n0_ n1_ n2_ n3_ n4_ n5_ n6_ n7_
           (try clear hb)
           (try clear hkp)
           (try clear ho0)
           refine hK.out _ _ ⟨(blk_cell BK137.out 0).trans rfl, (blk_cell BK137.out 1).trans rfl, (blk_cell BK137.out 2).trans rfl, (blk_cell BK137.out 3).trans rfl, (blk_cell BK137.out 4).trans rfl, (blk_cell BK137.out 5).trans rfl, (blk_cell BK137.out 6).trans rfl, (blk_cell BK137.out 7).trans rfl, (blk_cell BK138.out 0).trans rfl, (blk_cell BK138.out 1).trans rfl, (blk_cell BK138.out 2).trans rfl, (blk_cell BK138.out 3).trans rfl, (blk_cell BK138.out 4).trans rfl, (blk_cell BK138.out 5).trans rfl, (blk_cell BK138.out 6).trans rfl, (blk_cell BK136.out 0).trans rfl, (blk_cell BK136.out 1).trans rfl, (blk_cell BK136.out 2).trans rfl⟩ (fun hHeld => ?_)
           clear hK K
           refine norm_ (a' := ?_) ?_ ?_
           rotate_left
           ·show Act.put _ (some 51) _ = _
            simp only [Act.put, nrm]
            rfl
           refine pstep 11 (some 9) #[true, true, true, true, true, true, true, true, true, true, true, true] HT_.out ?_
           refine done_ (done_of HT_.out (by kernel_rfl)) ?_
           have hcv173 := Kd.D_string (P := Try.prog) Try.underlying53 Try.underlying5 Try.underlying9 HO165.out
           have hcz174_0 : w172.cell? ⟨gb137, 0, none⟩ = some (.int .i64 a1_0) := (blk_cell BK137.out 0).trans rfl
           have hcz174_1 : w172.cell? ⟨gb137, 1, none⟩ = some (.int .i64 a2_1) := (blk_cell BK137.out 1).trans rfl
           have hcz174_2 : w172.cell? ⟨gb137, 2, none⟩ = some (.int .i64 a1_2) := (blk_cell BK137.out 2).trans rfl
           have hcz174_3 : w172.cell? ⟨gb137, 3, none⟩ = some (.int .i64 a1_3) := (blk_cell BK137.out 3).trans rfl
           have hcz174_4 : w172.cell? ⟨gb137, 4, none⟩ = some (.int .i64 a1_4) := (blk_cell BK137.out 4).trans rfl
           have hcz174_5 : w172.cell? ⟨gb137, 5, none⟩ = some (.int .i64 a1_5) := (blk_cell BK137.out 5).trans rfl
           have hcz174_6 : w172.cell? ⟨gb137, 6, none⟩ = some (.int .i64 a2_2) := (blk_cell BK137.out 6).trans rfl
           have hcz174_7 : w172.cell? ⟨gb137, 7, none⟩ = some (.string a1_7) := (blk_cell BK137.out 7).trans rfl
           have hfz174_0 := blk_frozen BK137.out 0
           have hfz174_1 := blk_frozen BK137.out 1
           have hfz174_2 := blk_frozen BK137.out 2
           have hfz174_3 := blk_frozen BK137.out 3
           have hfz174_4 := blk_frozen BK137.out 4
           have hfz174_5 := blk_frozen BK137.out 5
           have hfz174_6 := blk_frozen BK137.out 6
           have hfz174_7 := blk_frozen BK137.out 7
           have hnb175 := NB136_138.out
           have hnc175 := NB138_136.out
           have hnb176 := NB136_139.out
           have hnc176 := NB139_136.out
           have hnb177 := NB136_142.out
           have hnc177 := NB142_136.out
           have hcz178_0 : w172.cell? ⟨gb136, 0, none⟩ = some (.string a0_0) := (blk_cell BK136.out 0).trans rfl
           have hcz178_1 : w172.cell? ⟨gb136, 1, none⟩ = some (.int .i64 a0_1) := (blk_cell BK136.out 1).trans rfl
           have hcz178_2 : w172.cell? ⟨gb136, 2, none⟩ = some (.bool a0_2) := (blk_cell BK136.out 2).trans rfl
           have hfz178_0 := blk_frozen BK136.out 0
           have hfz178_1 := blk_frozen BK136.out 1
           have hfz178_2 := blk_frozen BK136.out 2
           obtain ⟨Ao179, co179, eo179, _⟩ := Kd.D_slice HO165.out
           subst eo179
           try go_wp2_with (first | ((with_reducible refine gate_callee (f := 31) rfl ?_); refine goesL_ (some 57) rfl rfl Try.func31 (by kernel_rfl) rfl #[.agg #[.string a0_0, .int .i64 a0_1, .bool a0_2], .slice Ao179 t163.length co179] rfl (by (try simp only [List.map_toArray, List.map_cons, List.map_nil]); first | done | rfl | (simp only [List.length_drop, List.length_take]; rfl)) ?_; (with_reducible refine (sync_found.calls kj36 a0_0 a0_1 a0_2 _ _ t163 false _ ?side1 ?side2 A127.out).mono ?_); (case side1 => refine (Kd.D_reads' (e := 5) (base := w.heap.size) (ok := fun k_ => some k_ ≠ (.slice Ao170 t157.length co170 : Value).ownBlock) (n := t163.length) (c := co179) ?_).2.2; exact (by (with_reducible repeat (first | apply Kd.D_alloc | apply Kd.D_drewN | apply Kd.D_drew)); exact (Kd.D_mono (Kd.D_far (p := ⟨gb137, 7, none⟩) (Kd.D_types HO165.out BK137.out (by decide)) (fun _ hk => hk.2) (.string (strOfNums t163))) (fun _ h_ => h_.1)))); (case side2 => exact (Kd.D_reads' HO165.out).2.1); rintro e w180 ⟨rfl, hb⟩; refine ⟨_, rfl, ?_⟩; have n0_ := Aside0.mk (Kd.R_below (by (with_reducible repeat (first | apply Kd.R_alloc | apply Kd.R_drewN | apply Kd.R_drew)); exact (Kd.R_mono (Kd.R_far (p := ⟨gb137, 7, none⟩) (Kd.R_types HO159.out BK137.out (by decide)) (fun _ hk => hk.2) (.string (strOfNums t163))) (fun _ h_ => h_.1))) hb); have n1_ := Aside0.mk (Kd.D_below (by (with_reducible repeat (first | apply Kd.D_alloc | apply Kd.D_drewN | apply Kd.D_drew)); exact (Kd.D_mono (Kd.D_far (p := ⟨gb137, 7, none⟩) (Kd.D_types HO165.out BK137.out (by decide)) (fun _ hk => hk.2) (.string (strOfNums t163))) (fun _ h_ => h_.1))) hb); have n2_ := Aside0.mk (blk_below (g := gb136) (o := .cells #[.string a0_0, .int .i64 a0_1, .bool a0_2] 23 (0, 0)) (by (with_reducible repeat (first | refine blk_drewN ?_ _ | refine blk_drew ?_ | refine blk_alloc ?_ _)); refine blk_far ?_ NB136_137.out _; (with_reducible repeat (first | refine blk_drewN ?_ _ | refine blk_drew ?_ | refine blk_alloc ?_ _)); exact BK136.out) hb); have n3_ := Aside0.mk (blk_below (g := gb137) (o := .cells #[.int .i64 a1_0, .int .i64 a2_1, .int .i64 a1_2, .int .i64 a1_3, .int .i64 a1_4, .int .i64 a1_5, .int .i64 a2_2, .string (strOfNums t163)] 27 (0, 0)) (by (with_reducible repeat (first | refine blk_drewN ?_ _ | refine blk_drew ?_ | refine blk_alloc ?_ _)); refine blk_put (cs := #[.int .i64 a1_0, .int .i64 a2_1, .int .i64 a1_2, .int .i64 a1_3, .int .i64 a1_4, .int .i64 a1_5, .int .i64 a2_2, .string a1_7]) ?_ 7 _ rfl; (with_reducible repeat (first | refine blk_drewN ?_ _ | refine blk_drew ?_ | refine blk_alloc ?_ _)); exact BK137.out) hb); have n4_ := Aside0.mk (blk_below (g := gb138) (o := .cells #[.int .i64 a2_0, .int .i64 a2_1, .int .i64 a2_2, .int .i64 a2_3, .int .i64 a2_4, .string a2_5, .int .i64 a2_6] 32 (0, 0)) (by (with_reducible repeat (first | refine blk_drewN ?_ _ | refine blk_drew ?_ | refine blk_alloc ?_ _)); refine blk_far ?_ NB138_137.out _; (with_reducible repeat (first | refine blk_drewN ?_ _ | refine blk_drew ?_ | refine blk_alloc ?_ _)); exact BK138.out) hb); have n5_ := Aside0.mk (blk_below (g := gb139) (o := .cells #[.int .i64 x140000_36, .int .i64 x140001_36, .int .i64 x140002_36, .int .i64 x140003_36, .int .i64 x140004_36, .int .i64 x140005_36, .int .i64 x140006_36, .string x140007_36] 27 (0, 0)) (by (with_reducible repeat (first | refine blk_drewN ?_ _ | refine blk_drew ?_ | refine blk_alloc ?_ _)); refine blk_far ?_ NB139_137.out _; (with_reducible repeat (first | refine blk_drewN ?_ _ | refine blk_drew ?_ | refine blk_alloc ?_ _)); exact BK139.out) hb); have n6_ := Aside0.mk (blk_below (g := gb142) (o := .cells #[.int .i64 a1_0, .int .i64 a1_1, .int .i64 a1_2, .int .i64 a1_3, .int .i64 a1_4, .int .i64 a1_5, .int .i64 a1_6, .string a1_7] 27 (0, 0)) (by (with_reducible repeat (first | refine blk_drewN ?_ _ | refine blk_drew ?_ | refine blk_alloc ?_ _)); refine blk_far ?_ NB142_137.out _; (with_reducible repeat (first | refine blk_drewN ?_ _ | refine blk_drew ?_ | refine blk_alloc ?_ _)); exact BK142.out) hb); have n7_ := Aside0.mk (below_step (hbw HB.out) hb); clear HO159; clear HO165; clear BK136; clear BK137; clear BK138; clear BK139; clear BK142; clear HB; have HO159 := n0_; have HO165 := n1_; have BK136 := n2_; have BK137 := n3_; have BK138 := n4_; have BK139 := n5_; have BK142 := n6_; have HB := n7_; clear n0_ n1_ n2_ n3_ n4_ n5_ n6_ n7_; (try clear hb); (try clear hb2); (try clear hk); (try clear hi); have hcz181_0 : w180.cell? ⟨gb137, 0, none⟩ = some (.int .i64 a1_0) := (blk_cell BK137.out 0).trans rfl; have hcz181_1 : w180.cell? ⟨gb137, 1, none⟩ = some (.int .i64 a2_1) := (blk_cell BK137.out 1).trans rfl; have hcz181_2 : w180.cell? ⟨gb137, 2, none⟩ = some (.int .i64 a1_2) := (blk_cell BK137.out 2).trans rfl; have hcz181_3 : w180.cell? ⟨gb137, 3, none⟩ = some (.int .i64 a1_3) := (blk_cell BK137.out 3).trans rfl; have hcz181_4 : w180.cell? ⟨gb137, 4, none⟩ = some (.int .i64 a1_4) := (blk_cell BK137.out 4).trans rfl; have hcz181_5 : w180.cell? ⟨gb137, 5, none⟩ = some (.int .i64 a1_5) := (blk_cell BK137.out 5).trans rfl; have hcz181_6 : w180.cell? ⟨gb137, 6, none⟩ = some (.int .i64 a2_2) := (blk_cell BK137.out 6).trans rfl; have hcz181_7 : w180.cell? ⟨gb137, 7, none⟩ = some (.string (strOfNums t163)) := (blk_cell BK137.out 7).trans rfl; have hfz181_0 := blk_frozen BK137.out 0; have hfz181_1 := blk_frozen BK137.out 1; have hfz181_2 := blk_frozen BK137.out 2; have hfz181_3 := blk_frozen BK137.out 3; have hfz181_4 := blk_frozen BK137.out 4; have hfz181_5 := blk_frozen BK137.out 5; have hfz181_6 := blk_frozen BK137.out 6; have hfz181_7 := blk_frozen BK137.out 7; have hnb182 := NB139_138.out; have hnc182 := NB138_139.out; have hnb183 := NB139_142.out; have hnc183 := NB142_139.out; have hcz184_0 : w180.cell? ⟨gb139, 0, none⟩ = some (.int .i64 x140000_36) := (blk_cell BK139.out 0).trans rfl; have hcz184_1 : w180.cell? ⟨gb139, 1, none⟩ = some (.int .i64 x140001_36) := (blk_cell BK139.out 1).trans rfl; have hcz184_2 : w180.cell? ⟨gb139, 2, none⟩ = some (.int .i64 x140002_36) := (blk_cell BK139.out 2).trans rfl; have hcz184_3 : w180.cell? ⟨gb139, 3, none⟩ = some (.int .i64 x140003_36) := (blk_cell BK139.out 3).trans rfl; have hcz184_4 : w180.cell? ⟨gb139, 4, none⟩ = some (.int .i64 x140004_36) := (blk_cell BK139.out 4).trans rfl; have hcz184_5 : w180.cell? ⟨gb139, 5, none⟩ = some (.int .i64 x140005_36) := (blk_cell BK139.out 5).trans rfl; have hcz184_6 : w180.cell? ⟨gb139, 6, none⟩ = some (.int .i64 x140006_36) := (blk_cell BK139.out 6).trans rfl; have hcz184_7 : w180.cell? ⟨gb139, 7, none⟩ = some (.string x140007_36) := (blk_cell BK139.out 7).trans rfl; have hfz184_0 := blk_frozen BK139.out 0; have hfz184_1 := blk_frozen BK139.out 1; have hfz184_2 := blk_frozen BK139.out 2; have hfz184_3 := blk_frozen BK139.out 3; have hfz184_4 := blk_frozen BK139.out 4; have hfz184_5 := blk_frozen BK139.out 5; have hfz184_6 := blk_frozen BK139.out 6; have hfz184_7 := blk_frozen BK139.out 7))
           refine bodyPost_ret (results_ct rfl _ _ gb139 27 #[.int .i64 a1_0, .int .i64 a2_1, .int .i64 a1_2, .int .i64 a1_3, .int .i64 a1_4, .int .i64 a1_5, .int .i64 a2_2, .string (strOfNums t163)] (0, 0) _ rfl (by (with_reducible repeat (first | refine blk_drewN ?_ _ | refine blk_drew ?_ | refine blk_alloc ?_ _)); refine blk_put (cs := #[.int .i64 a1_0, .int .i64 a2_1, .int .i64 a1_2, .int .i64 a1_3, .int .i64 a1_4, .int .i64 a1_5, .int .i64 a2_2, .string x140007_36]) ?_ 7 _ rfl; (with_reducible repeat (first | refine blk_drewN ?_ _ | refine blk_drew ?_ | refine blk_alloc ?_ _)); refine blk_put (cs := #[.int .i64 a1_0, .int .i64 a2_1, .int .i64 a1_2, .int .i64 a1_3, .int .i64 a1_4, .int .i64 a1_5, .int .i64 x140006_36, .string x140007_36]) ?_ 6 _ rfl; (with_reducible repeat (first | refine blk_drewN ?_ _ | refine blk_drew ?_ | refine blk_alloc ?_ _)); refine blk_put (cs := #[.int .i64 a1_0, .int .i64 a2_1, .int .i64 a1_2, .int .i64 a1_3, .int .i64 a1_4, .int .i64 x140005_36, .int .i64 x140006_36, .string x140007_36]) ?_ 5 _ rfl; (with_reducible repeat (first | refine blk_drewN ?_ _ | refine blk_drew ?_ | refine blk_alloc ?_ _)); refine blk_put (cs := #[.int .i64 a1_0, .int .i64 a2_1, .int .i64 a1_2, .int .i64 a1_3, .int .i64 x140004_36, .int .i64 x140005_36, .int .i64 x140006_36, .string x140007_36]) ?_ 4 _ rfl; (with_reducible repeat (first | refine blk_drewN ?_ _ | refine blk_drew ?_ | refine blk_alloc ?_ _)); refine blk_put (cs := #[.int .i64 a1_0, .int .i64 a2_1, .int .i64 a1_2, .int .i64 x140003_36, .int .i64 x140004_36, .int .i64 x140005_36, .int .i64 x140006_36, .string x140007_36]) ?_ 3 _ rfl; (with_reducible repeat (first | refine blk_drewN ?_ _ | refine blk_drew ?_ | refine blk_alloc ?_ _)); refine blk_put (cs := #[.int .i64 a1_0, .int .i64 a2_1, .int .i64 x140002_36, .int .i64 x140003_36, .int .i64 x140004_36, .int .i64 x140005_36, .int .i64 x140006_36, .string x140007_36]) ?_ 2 _ rfl; (with_reducible repeat (first | refine blk_drewN ?_ _ | refine blk_drew ?_ | refine blk_alloc ?_ _)); refine blk_put (cs := #[.int .i64 a1_0, .int .i64 x140001_36, .int .i64 x140002_36, .int .i64 x140003_36, .int .i64 x140004_36, .int .i64 x140005_36, .int .i64 x140006_36, .string x140007_36]) ?_ 1 _ rfl; (with_reducible repeat (first | refine blk_drewN ?_ _ | refine blk_drew ?_ | refine blk_alloc ?_ _)); refine blk_put (cs := #[.int .i64 x140000_36, .int .i64 x140001_36, .int .i64 x140002_36, .int .i64 x140003_36, .int .i64 x140004_36, .int .i64 x140005_36, .int .i64 x140006_36, .string x140007_36]) ?_ 0 _ rfl; (with_reducible repeat (first | refine blk_drewN ?_ _ | refine blk_drew ?_ | refine blk_alloc ?_ _)); exact BK139.out) Try.underlying27 rfl (by kernel_rfl)) rfl ?_
           exact ⟨_, by first | rfl | (simp [errW_none, errW_some] <;> rfl) | (simp [*, errW_none, errW_some] <;> rfl), by first | exact Kd.R_nil _ _ _ _ _ | exact Kd.N_nil _ _ _ _ _ | exact Kd.V_nil _ _ _ _ _ | exact Kd.Q_nil _ _ _ _ _ | exact Kd.S_nil _ _ _ _ _, by repeat (first | (with_reducible first | exact HB.out | apply below_alloc | apply pw_below_drewN | apply below_drew1 | refine below_set ?_ GE136.out | refine below_set ?_ GE137.out | refine below_set ?_ GE138.out | refine below_set ?_ GE139.out | refine below_set ?_ GE142.out) | exact HB.out)⟩
         ·rw [if_neg c125] at H
          exact absurd H (by simp)
        ·rw [if_neg c123] at H
         exact absurd H (by simp)

end Go.Proofs.Ytbggkaofkohecaa.PSyncRoundTrips
