-- Written by a program of this session (wip/tools/pr.py), which calls the kit's print with changes of its own.
import Derived.Test.YtgcifmaefoeobaaPScrambleRoundTripsx0
import Derived.Test.YtgcifmaefoeobaaPScrambleRoundTripsx4
import Derived.Test.YtgcifmaefoeobaaPScrambleRoundTripsx7
import Derived.Test.YtgcifmaefoeobaaPScrambleRoundTripsx8
namespace Go.Proofs.Ytgcifmaefoeobaa.PScrambleRoundTrips
open Go.RowKit Go.Proofs.YtgcifmaefoeobaaW.PrintWords Go.Proofs.YtgcifmaefoeobaaW.PrintLast Go.Proofs.YtgcifmaefoeobaaW.PrintMore
attribute [local go_sem] max2_int min2_int max_two min_two max_three min_three max_four min_four   -- for this text's walks alone
set_option linter.unusedVariables false
set_option linter.unusedSimpArgs false

/-! ### signalbenchlaw20_ScrambleRoundTrips: function 6 -/
mutual
def signalbenchlaw20_ScrambleRoundTrips.j0 : Nat → List (S46) → List (S46) → Int → Int → Option (Bool)
 | 0, _, _, _, _ => none
 | k + 1, x1, x5, x215000, x215001 => if (x5.length : Int) = (x1.length : Int) then (signalbenchlaw20_ScrambleRoundTrips.j1 k x1 x5 x215000 x215001) else (some false)
def signalbenchlaw20_ScrambleRoundTrips.j1 : Nat → List (S46) → List (S46) → Int → Int → Option (Bool)
 | 0, _, _, _, _ => none
 | k + 1, x1, x5, x215000, x215001 => signalbenchlaw20_ScrambleRoundTrips.l0 k x1 x5 (⟨#[]⟩ : ByteArray) (⟨#[]⟩ : ByteArray) 0 x215000 x215001
def signalbenchlaw20_ScrambleRoundTrips.l0 : Nat → List (S46) → List (S46) → ByteArray → ByteArray → Int → Int → Int → Option (Bool)
 | 0, _, _, _, _, _, _, _ => none
 | k + 1, x1, x5, x7, x8, x9, x215000, x215001 => if x9 < (x1.length : Int) then (if 0 ≤ x9 then (if x9 < (x5.length : Int) then (if ((rd_T46 x5 x9).f0) = ((rd_T46 x1 x9).f0) then (if (((rd_T46 x5 x9).f3).size : Int) = (((rd_T46 x1 x9).f3).size : Int) then (if ((rd_T46 x5 x9).f1) = 0 then (if ((rd_T46 x5 x9).f2) = 0 then (signalbenchlaw20_ScrambleRoundTrips.j3 k x1 x5 x7 x8 x9 (((rd_T46 x5 x9).f4) != 0) x215000 x215001) else (signalbenchlaw20_ScrambleRoundTrips.j3 k x1 x5 x7 x8 x9 true x215000 x215001)) else (signalbenchlaw20_ScrambleRoundTrips.j3 k x1 x5 x7 x8 x9 true x215000 x215001)) else (signalbenchlaw20_ScrambleRoundTrips.j3 k x1 x5 x7 x8 x9 true x215000 x215001)) else (signalbenchlaw20_ScrambleRoundTrips.j3 k x1 x5 x7 x8 x9 true x215000 x215001)) else (none)) else (none)) else ((signalbenchlaw20_bits.f k x7).bind fun t231 => ((scramble_Decode.f k x215000 x215001 t231).bind fun t234 => ((signalbenchlaw20_bits.f k x8).bind fun t237 => ((signalbenchref07_Same.f k t234 t237).bind fun t240 => (if t240 = true then ((signalbenchlaw20_awake.f k).bind fun t241 => (some t241)) else (some false))))))
def signalbenchlaw20_ScrambleRoundTrips.j3 : Nat → List (S46) → List (S46) → ByteArray → ByteArray → Int → Bool → Int → Int → Option (Bool)
 | 0, _, _, _, _, _, _, _, _ => none
 | k + 1, x1, x5, x7, x8, x9, x84, x215000, x215001 => if x84 = true then (some false) else (if 0 ≤ x9 then (if x9 < (x1.length : Int) then (if (wrap64 ((x7.size : Int) + (((rd_T46 x1 x9).f3).size : Int))) > 65536 then ((signalbenchlaw20_awake.f k).bind fun t228 => (some t228)) else (if x9 < (x5.length : Int) then (if x7.size + ((rd_T46 x5 x9).f3).size ≤ 9223372036854775807 then (if x8.size + ((rd_T46 x1 x9).f3).size ≤ 9223372036854775807 then (signalbenchlaw20_ScrambleRoundTrips.l0 k x1 x5 (x7 ++ ((rd_T46 x5 x9).f3)) (x8 ++ ((rd_T46 x1 x9).f3)) (wrap64 (x9 + 1)) x215000 x215001) else (none)) else (none)) else (none))) else (none)) else (none))
end
def signalbenchlaw20_ScrambleRoundTrips.f (k : Nat) (a0_0 : Int) (a0_1 : Int) (l1 : List (S46)) : Option (Bool) := (scramble_Encode.f k a0_0 a0_1 l1).bind fun bt215 => (if bt215.2 = 0 then (signalbenchlaw20_ScrambleRoundTrips.j0 k l1 bt215.1 a0_0 a0_1) else (if (bt215.1.length : Int) = 0 then ((signalbenchlaw20_awake.f k).bind fun t219 => (some t219)) else (some false)))
theorem signalbenchlaw20_ScrambleRoundTrips.mono_l : ∀ k, (∀ y0 y1 y2 y3, LeO (signalbenchlaw20_ScrambleRoundTrips.j0 k y0 y1 y2 y3) (signalbenchlaw20_ScrambleRoundTrips.j0 (k + 1) y0 y1 y2 y3)) ∧ (∀ y0 y1 y2 y3, LeO (signalbenchlaw20_ScrambleRoundTrips.j1 k y0 y1 y2 y3) (signalbenchlaw20_ScrambleRoundTrips.j1 (k + 1) y0 y1 y2 y3)) ∧ (∀ y0 y1 y2 y3 y4 y5 y6, LeO (signalbenchlaw20_ScrambleRoundTrips.l0 k y0 y1 y2 y3 y4 y5 y6) (signalbenchlaw20_ScrambleRoundTrips.l0 (k + 1) y0 y1 y2 y3 y4 y5 y6)) ∧ (∀ y0 y1 y2 y3 y4 y5 y6 y7, LeO (signalbenchlaw20_ScrambleRoundTrips.j3 k y0 y1 y2 y3 y4 y5 y6 y7) (signalbenchlaw20_ScrambleRoundTrips.j3 (k + 1) y0 y1 y2 y3 y4 y5 y6 y7))
 | 0 => ⟨fun _ _ _ _ r h => by simp [signalbenchlaw20_ScrambleRoundTrips.j0] at h, fun _ _ _ _ r h => by simp [signalbenchlaw20_ScrambleRoundTrips.j1] at h, fun _ _ _ _ _ _ _ r h => by simp [signalbenchlaw20_ScrambleRoundTrips.l0] at h, fun _ _ _ _ _ _ _ _ r h => by simp [signalbenchlaw20_ScrambleRoundTrips.j3] at h⟩
 | k + 1 => by
  obtain ⟨ih0, ih1, ih2, ih3⟩ := signalbenchlaw20_ScrambleRoundTrips.mono_l k
  refine ⟨?_, ?_, ?_, ?_⟩
  ·intro y0 y1 y2 y3
   unfold signalbenchlaw20_ScrambleRoundTrips.j0
   repeat' first
   | (with_reducible exact ih0 _ _ _ _)
   | (with_reducible exact ih1 _ _ _ _)
   | (with_reducible exact ih2 _ _ _ _ _ _ _)
   | (with_reducible exact ih3 _ _ _ _ _ _ _ _)
   | (with_reducible exact scramble_Decode.mono _ _ _ _)
   | (with_reducible exact scramble_Encode.mono _ _ _ _)
   | (with_reducible exact signalbenchlaw20_awake.mono _)
   | (with_reducible exact signalbenchlaw20_bits.mono _ _)
   | (with_reducible exact signalbenchref07_Same.mono _ _ _)
   | (with_reducible exact LeO.refl _)
   | (with_reducible exact LeO.none _)
   | (with_reducible refine LeO.ite ?_ ?_)
   | (with_reducible refine LeO.bind ?_ (fun _ => ?_))
   | exact ih0 _ _ _ _
   | exact ih1 _ _ _ _
   | exact ih2 _ _ _ _ _ _ _
   | exact ih3 _ _ _ _ _ _ _ _
   | exact scramble_Decode.mono _ _ _ _
   | exact scramble_Encode.mono _ _ _ _
   | exact signalbenchlaw20_awake.mono _
   | exact signalbenchlaw20_bits.mono _ _
   | exact signalbenchref07_Same.mono _ _ _
   | exact LeO.none _
   | refine LeO.ite ?_ ?_
   | refine LeO.bind ?_ (fun _ => ?_)
  ·intro y0 y1 y2 y3
   unfold signalbenchlaw20_ScrambleRoundTrips.j1
   repeat' first
   | (with_reducible exact ih0 _ _ _ _)
   | (with_reducible exact ih1 _ _ _ _)
   | (with_reducible exact ih2 _ _ _ _ _ _ _)
   | (with_reducible exact ih3 _ _ _ _ _ _ _ _)
   | (with_reducible exact scramble_Decode.mono _ _ _ _)
   | (with_reducible exact scramble_Encode.mono _ _ _ _)
   | (with_reducible exact signalbenchlaw20_awake.mono _)
   | (with_reducible exact signalbenchlaw20_bits.mono _ _)
   | (with_reducible exact signalbenchref07_Same.mono _ _ _)
   | (with_reducible exact LeO.refl _)
   | (with_reducible exact LeO.none _)
   | (with_reducible refine LeO.ite ?_ ?_)
   | (with_reducible refine LeO.bind ?_ (fun _ => ?_))
   | exact ih0 _ _ _ _
   | exact ih1 _ _ _ _
   | exact ih2 _ _ _ _ _ _ _
   | exact ih3 _ _ _ _ _ _ _ _
   | exact scramble_Decode.mono _ _ _ _
   | exact scramble_Encode.mono _ _ _ _
   | exact signalbenchlaw20_awake.mono _
   | exact signalbenchlaw20_bits.mono _ _
   | exact signalbenchref07_Same.mono _ _ _
   | exact LeO.none _
   | refine LeO.ite ?_ ?_
   | refine LeO.bind ?_ (fun _ => ?_)
  ·intro y0 y1 y2 y3 y4 y5 y6
   unfold signalbenchlaw20_ScrambleRoundTrips.l0
   repeat' first
   | (with_reducible exact ih0 _ _ _ _)
   | (with_reducible exact ih1 _ _ _ _)
   | (with_reducible exact ih2 _ _ _ _ _ _ _)
   | (with_reducible exact ih3 _ _ _ _ _ _ _ _)
   | (with_reducible exact scramble_Decode.mono _ _ _ _)
   | (with_reducible exact scramble_Encode.mono _ _ _ _)
   | (with_reducible exact signalbenchlaw20_awake.mono _)
   | (with_reducible exact signalbenchlaw20_bits.mono _ _)
   | (with_reducible exact signalbenchref07_Same.mono _ _ _)
   | (with_reducible exact LeO.refl _)
   | (with_reducible exact LeO.none _)
   | (with_reducible refine LeO.ite ?_ ?_)
   | (with_reducible refine LeO.bind ?_ (fun _ => ?_))
   | exact ih0 _ _ _ _
   | exact ih1 _ _ _ _
   | exact ih2 _ _ _ _ _ _ _
   | exact ih3 _ _ _ _ _ _ _ _
   | exact scramble_Decode.mono _ _ _ _
   | exact scramble_Encode.mono _ _ _ _
   | exact signalbenchlaw20_awake.mono _
   | exact signalbenchlaw20_bits.mono _ _
   | exact signalbenchref07_Same.mono _ _ _
   | exact LeO.none _
   | refine LeO.ite ?_ ?_
   | refine LeO.bind ?_ (fun _ => ?_)
  ·intro y0 y1 y2 y3 y4 y5 y6 y7
   unfold signalbenchlaw20_ScrambleRoundTrips.j3
   repeat' first
   | (with_reducible exact ih0 _ _ _ _)
   | (with_reducible exact ih1 _ _ _ _)
   | (with_reducible exact ih2 _ _ _ _ _ _ _)
   | (with_reducible exact ih3 _ _ _ _ _ _ _ _)
   | (with_reducible exact scramble_Decode.mono _ _ _ _)
   | (with_reducible exact scramble_Encode.mono _ _ _ _)
   | (with_reducible exact signalbenchlaw20_awake.mono _)
   | (with_reducible exact signalbenchlaw20_bits.mono _ _)
   | (with_reducible exact signalbenchref07_Same.mono _ _ _)
   | (with_reducible exact LeO.refl _)
   | (with_reducible exact LeO.none _)
   | (with_reducible refine LeO.ite ?_ ?_)
   | (with_reducible refine LeO.bind ?_ (fun _ => ?_))
   | exact ih0 _ _ _ _
   | exact ih1 _ _ _ _
   | exact ih2 _ _ _ _ _ _ _
   | exact ih3 _ _ _ _ _ _ _ _
   | exact scramble_Decode.mono _ _ _ _
   | exact scramble_Encode.mono _ _ _ _
   | exact signalbenchlaw20_awake.mono _
   | exact signalbenchlaw20_bits.mono _ _
   | exact signalbenchref07_Same.mono _ _ _
   | exact LeO.none _
   | refine LeO.ite ?_ ?_
   | refine LeO.bind ?_ (fun _ => ?_)
theorem signalbenchlaw20_ScrambleRoundTrips.mono : ∀ a0 a1 a2 k, LeO (signalbenchlaw20_ScrambleRoundTrips.f k a0 a1 a2) (signalbenchlaw20_ScrambleRoundTrips.f (k + 1) a0 a1 a2) := by
 intro a0 a1 a2 k
 obtain ⟨ih0, ih1, ih2, ih3⟩ := signalbenchlaw20_ScrambleRoundTrips.mono_l k
 unfold signalbenchlaw20_ScrambleRoundTrips.f
 repeat' first
   | (with_reducible exact ih0 _ _ _ _)
   | (with_reducible exact ih1 _ _ _ _)
   | (with_reducible exact ih2 _ _ _ _ _ _ _)
   | (with_reducible exact ih3 _ _ _ _ _ _ _ _)
   | (with_reducible exact scramble_Decode.mono _ _ _ _)
   | (with_reducible exact scramble_Encode.mono _ _ _ _)
   | (with_reducible exact signalbenchlaw20_awake.mono _)
   | (with_reducible exact signalbenchlaw20_bits.mono _ _)
   | (with_reducible exact signalbenchref07_Same.mono _ _ _)
   | (with_reducible exact LeO.refl _)
   | (with_reducible exact LeO.none _)
   | (with_reducible refine LeO.ite ?_ ?_)
   | (with_reducible refine LeO.bind ?_ (fun _ => ?_))
   | exact ih0 _ _ _ _
   | exact ih1 _ _ _ _
   | exact ih2 _ _ _ _ _ _ _
   | exact ih3 _ _ _ _ _ _ _ _
   | exact scramble_Decode.mono _ _ _ _
   | exact scramble_Encode.mono _ _ _ _
   | exact signalbenchlaw20_awake.mono _
   | exact signalbenchlaw20_bits.mono _ _
   | exact signalbenchref07_Same.mono _ _ _
   | exact LeO.none _
   | refine LeO.ite ?_ ?_
   | refine LeO.bind ?_ (fun _ => ?_)
def signalbenchlaw20_ScrambleRoundTrips.T11 : Bool × List (List Nat × List Nat) := (true, [([], []), ([], []), ([0, 1], [0, 1]), ([2], [2]), ([3], [3]), ([], []), ([], []), ([5, 6], [5, 6]), ([7], [7]), ([8], [8]), ([4, 9], [4, 9]), ([10], [10]), ([11], [11]), ([11], [11]), ([12, 13, 11], [11, 12, 13]), ([14, 11], [11, 14]), ([15, 11], [11, 15]), ([16, 11], [11, 16]), ([11], [11]), ([11], [11]), ([18, 19, 11], [11, 18, 19]), ([20, 11], [11, 20]), ([21, 11], [11, 21]), ([22, 11], [11, 22]), ([17, 23, 11], [11, 17, 23]), ([11, 24], [11, 24]), ([25, 11], [25]), ([26], [26]), ([26], [26]), ([27, 28, 26], [26, 27, 28]), ([29, 26], [26, 29]), ([30, 26], [26, 30]), ([31, 26], [26, 31]), ([26, 32], [26, 32]), ([33, 26], [33]), ([34], [34]), ([34], [34]), ([35, 36, 34], [34, 35, 36]), ([37, 34], [34, 37]), ([38, 34], [34, 38]), ([39, 34], [34, 39]), ([34, 40], [34, 40]), ([41, 34], [41]), ([42], [42]), ([42], [42]), ([43, 44, 42], [42, 43, 44]), ([45, 42], [42, 45]), ([46, 42], [42, 46]), ([47, 42], [42, 47]), ([42, 48], [42, 48])])
def signalbenchlaw20_ScrambleRoundTrips.B11 : List Nat := [0, 0, 3, 7, 15, 0, 0, 96, 224, 480, 1023, 2047, 4095, 4095, 16383, 32767, 65535, 131071, 4095, 4095, 790527, 1839103, 3936255, 8130559, 16777215, 33554431, 67108863, 134217727, 134217727, 536870911, 1073741823, 2147483647, 4294967295, 8589934591, 17179869183, 34359738367, 34359738367, 137438953471, 274877906943, 549755813887, 1099511627775, 2199023255551, 4398046511103, 8796093022207, 8796093022207, 35184372088831, 70368744177663, 140737488355327, 281474976710655, 562949953421311]
theorem signalbenchlaw20_ScrambleRoundTrips.tab11 : rtab .any (opsOf Try.f6 11) = signalbenchlaw20_ScrambleRoundTrips.T11 := by kernel_rfl
theorem signalbenchlaw20_ScrambleRoundTrips.bits11 : waitsOk signalbenchlaw20_ScrambleRoundTrips.T11.2 signalbenchlaw20_ScrambleRoundTrips.B11 = true := by kernel_rfl
def signalbenchlaw20_ScrambleRoundTrips.T17 : Bool × List (List Nat × List Nat) := (true, [([], []), ([], []), ([1], [1]), ([0, 2, 2], [0, 2]), ([], []), ([4, 3], [4]), ([3, 5, 5], [3, 5]), ([6, 6], [6]), ([7, 7], [7]), ([7, 8], [7, 8]), ([9, 8, 0, 1, 2, 3, 4, 5, 6, 7, 8, 9], [9])])
def signalbenchlaw20_ScrambleRoundTrips.B17 : List Nat := [0, 0, 2, 7, 0, 31, 63, 127, 255, 511, 1023]
theorem signalbenchlaw20_ScrambleRoundTrips.tab17 : rtab .any (opsOf Try.f6 17) = signalbenchlaw20_ScrambleRoundTrips.T17 := by kernel_rfl
theorem signalbenchlaw20_ScrambleRoundTrips.bits17 : waitsOk signalbenchlaw20_ScrambleRoundTrips.T17.2 signalbenchlaw20_ScrambleRoundTrips.B17 = true := by kernel_rfl
set_option maxHeartbeats 8000000 in
set_option maxRecDepth 100000 in
theorem signalbenchlaw20_ScrambleRoundTrips.calls (k : Nat) (a0_0 : Int) (a0_1 : Int) (A1 : Option Addr) (c1 : Nat) (l1 : List (S46)) (r : Bool) (w : World) (hr1 : Kd.C k46 w A1 l1.length l1) (hc1 : l1.length ≤ c1) (h : signalbenchlaw20_ScrambleRoundTrips.f k a0_0 a0_1 l1 = some r) :
  Calls Try.prog 6 #[.agg #[.int .i64 a0_0, .int .i64 a0_1], .slice A1 l1.length c1] w fun e w' => e = .returned (.bool r) ∧ Below w.heap.size w w' := by
 have hu23 := Try.underlying23
 have HR1 := Aside0.mk hr1
 have HC1 := Aside0.mk hc1
 clear hr1 hc1
 have HB := Aside0.mk (Below.refl w.heap.size w)
 have H : ((scramble_Encode.f k a0_0 a0_1 l1).bind fun bt215 => (if bt215.2 = 0 then (signalbenchlaw20_ScrambleRoundTrips.j0 k l1 bt215.1 a0_0 a0_1) else (if (bt215.1.length : Int) = 0 then ((signalbenchlaw20_awake.f k).bind fun t219 => (some t219)) else (some false)))) = some r := h
 clear h
 replace H := Option.bind_eq_some_iff.mp H
 obtain ⟨⟨t215, t218⟩, A30, H⟩ := H
 replace H : (if t218 = 0 then (signalbenchlaw20_ScrambleRoundTrips.j0 k l1 t215 a0_0 a0_1) else (if (t215.length : Int) = 0 then ((signalbenchlaw20_awake.f k).bind fun t219 => (some t219)) else (some false))) = some r := H
 have A3 := Aside0.mk A30
 clear A30
 have HC4 := Aside0.mk H
 clear H
 go_enter Try.func6, Try.ntmps6
 go_upto_if 17 with (first | ((with_reducible refine gate_dst (N := 2) rfl ?_); (try (refine gate_guard (by rfl) ?_; dsimp only)); refine box_event ?hg (N := 2) ?hd (cs := #[.int .i64 a0_0, .int .i64 a0_1]) (t := 23) ?hr ?_; (case hd => rfl); (case hg => rfl); (case hr => first | (go_simp; done) | (go_simp; rfl)); intro gb214 hg w5 hbox hb; have n0_ := Aside0.mk (below_step (hbw HB.out) hb); have n1_ := Aside0.mk (hbox); have n2_ := Aside0.mk ((by rw [hg]; exact (below_size (hbw HB.out)) : w.heap.size ≤ gb214)); have n3_ := Aside0.mk ((by rw [hg]; exact (below_size (hbw HB.out)) : w.heap.size ≤ gb214)); clear HB; have HB := n0_; have BK214 := n1_; have GW214 := n2_; have GE214 := n3_; clear n0_ n1_ n2_ n3_; clear hb hbox hg; have hcz6_0 : w5.cell? ⟨gb214, 0, none⟩ = some (.int .i64 a0_0) := (blk_cell BK214.out 0).trans rfl; have hcz6_1 : w5.cell? ⟨gb214, 1, none⟩ = some (.int .i64 a0_1) := (blk_cell BK214.out 1).trans rfl; have hfz6_0 := blk_frozen BK214.out 0; have hfz6_1 := blk_frozen BK214.out 1) | ((with_reducible refine gate_callee (f := 13) rfl ?_); refine goesL_ (some 13) rfl rfl Try.func13 (by kernel_rfl) rfl #[.agg #[.int .i64 a0_0, .int .i64 a0_1], .slice A1 l1.length c1] rfl (by (try simp only [List.map_toArray, List.map_cons, List.map_nil]); first | done | rfl | (simp only [List.length_drop, List.length_take]; rfl)) ?_; (with_reducible refine (scramble_Encode.calls k a0_0 a0_1 _ _ l1 t215 t218 _ ?side1 ?side2 A3.out).mono ?_); (case side1 => repeat (first | exact (Kd.C_below HR1.out HB.out) | (with_reducible refine Kd.C_alloc ?_ _) | (with_reducible refine Kd.C_drewN ?_ _) | (with_reducible refine Kd.C_drew ?_))); (case side2 => exact HC1.out); rintro e w7 ⟨v216, rfl, ho0, hb⟩; refine ⟨_, rfl, ?_⟩; have n0_ := Aside0.mk (Kd.R_lower ho0 (below_size (hbw HB.out))); have n1_ := Aside0.mk (blkb BK214.out hb); have n2_ := Aside0.mk (below_step (hbw HB.out) hb); clear BK214; clear HB; have HO217 := n0_; have BK214 := n1_; have HB := n2_; clear n0_ n1_ n2_; (try clear hb); (try clear hb2); (try clear hk); (try clear hi); (try clear ho0)))
 (try simp only [Act.put, List.setIfInBounds_toArray, List.set_cons_zero, List.set_cons_succ])
 go_cut [] (fun wc => ∃ (kq : Nat), Aside0 (signalbenchlaw20_ScrambleRoundTrips.j0 kq l1 t215 a0_0 a0_1 = some r) ∧ Aside0 (kq ≤ k) ∧ Aside0 (Kd.R k46 46 wc w.heap.size (fun _ => True) v216 t215) ∧ Aside0 (wc.heap[gb214]? = some (.cells #[.int .i64 a0_0, .int .i64 a0_1] 23 (0, 0))) ∧ Aside0 (Below w.heap.size w wc))
 case first =>
  have H := HC4.out
  clear HC4
  by_cases c8 : t218 = 0
  ·rw [if_pos c8] at H
   have c8b0 : (t218 == 0) = true := beq_iff_eq.mpr c8
   have c8b1 : (t218 != 0) = false := bne_eq_false_iff_eq.mpr c8
   clear c8
   (first | rw [c8b0] | (simp only [i64_w, i32_w]; rw [c8b0]) | skip)
   have H' := Aside0.mk H
   clear H
   go_wp2
   go_meet
   case rel => exact ⟨_, H', ⟨by first | omega | exact Nat.le_refl _⟩, ⟨by (with_reducible repeat (first | apply Kd.R_alloc | apply Kd.R_drewN | apply Kd.R_drew)); exact HO217.out⟩, ⟨by (with_reducible repeat (first | refine blk_drewN ?_ _ | refine blk_drew ?_ | refine blk_alloc ?_ _)); exact BK214.out⟩, ⟨by repeat (first | (with_reducible first | exact HB.out | apply below_alloc | apply pw_below_drewN | apply below_drew1 | refine below_set ?_ GE214.out) | exact HB.out)⟩⟩
  ·rw [if_neg c8] at H
   have c8b0 : (t218 == 0) = false := beq_eq_false_iff_ne.mpr c8
   have c8b1 : (t218 != 0) = true := bne_iff_ne.mpr c8
   (first | rw [c8b0] | (simp only [i64_w, i32_w]; rw [c8b0]) | skip)
   by_cases c9 : (t215.length : Int) = 0
   ·rw [if_pos c9] at H
    have c9b0 : ((t215.length : Int) == 0) = true := beq_iff_eq.mpr c9
    have c9b1 : ((t215.length : Int) != 0) = false := bne_eq_false_iff_eq.mpr c9
    clear c9
    replace H := Option.bind_eq_some_iff.mp H
    obtain ⟨t219, A100, H⟩ := H
    replace H : (some t219) = some r := H
    have A10 := Aside0.mk A100
    clear A100
    obtain rfl := Option.some.inj H
    obtain ⟨Ao11, co11, eo11⟩ := Kd.R_slice HO217.out
    subst eo11
    go_wp2_with (first | (go_at_call 11; (with_reducible refine (signalbenchlaw20_awake.calls k  t219 _ A10.out).mono ?_); rintro e w12 ⟨rfl, hb⟩; have n0_ := Aside0.mk (Kd.R_below (rkw HO217.out) hb); have n1_ := Aside0.mk (blkb BK214.out hb); have n2_ := Aside0.mk (below_step (hbw HB.out) hb); clear HO217; clear BK214; clear HB; have HO217 := n0_; have BK214 := n1_; have HB := n2_; clear n0_ n1_ n2_; (try clear hb); (try clear hb2); (try clear hk); (try clear hi)))
    go_ret
    exact ⟨by first | rfl | (simp [errW_none, errW_some] <;> rfl) | (simp [*, errW_none, errW_some] <;> rfl), by repeat (first | (with_reducible first | exact HB.out | apply below_alloc | apply pw_below_drewN | apply below_drew1 | refine below_set ?_ GE214.out) | exact HB.out)⟩
   ·rw [if_neg c9] at H
    have c9b0 : ((t215.length : Int) == 0) = false := beq_eq_false_iff_ne.mpr c9
    have c9b1 : ((t215.length : Int) != 0) = true := bne_iff_ne.mpr c9
    have c9b2 : ¬ (t215 = []) := fun h_ => c9 (by rw [h_]; rfl)
    obtain rfl := Option.some.inj H
    obtain ⟨Ao13, co13, eo13⟩ := Kd.R_slice HO217.out
    subst eo13
    go_wp2
    go_ret
    exact ⟨by first | rfl | (simp [errW_none, errW_some] <;> rfl) | (simp [*, errW_none, errW_some] <;> rfl), by repeat (first | (with_reducible first | exact HB.out | apply below_alloc | apply pw_below_drewN | apply below_drew1 | refine below_set ?_ GE214.out) | exact HB.out)⟩
 case rest =>
  clear HC4
  try clear c1
  try clear p2
  try clear c6
  try clear c8
  try clear c8b0
  try clear c8b1
  try clear c9
  try clear c9b0
  try clear c9b1
  try clear c9b2
  try clear c13
  try clear hcz6_0
  try clear hcz6_1
  try clear hfz6_0
  try clear hfz6_1
  obtain ⟨kq, HA, HJ3, HO_5, BK214, HB⟩ := hcut
  cases kq with
  | zero => exact absurd HA.out (by simp [signalbenchlaw20_ScrambleRoundTrips.j0])
  | succ kj3 =>
   have H := HA.out
   clear HA
   simp only [signalbenchlaw20_ScrambleRoundTrips.j0] at H
   have HC14 := Aside0.mk H
   clear H
   obtain ⟨Ao15, co15, eo15⟩ := Kd.R_slice HO_5.out
   subst eo15
   go_upto_if 28 with (fail)
   go_cut [] (fun wc => ∃ (kq : Nat), Aside0 (signalbenchlaw20_ScrambleRoundTrips.j1 kq l1 t215 a0_0 a0_1 = some r) ∧ Aside0 (kq ≤ kj3) ∧ Aside0 (Kd.R k46 46 wc w.heap.size (fun _ => True) (.slice Ao15 t215.length co15) t215) ∧ Aside0 (wc.heap[gb214]? = some (.cells #[.int .i64 a0_0, .int .i64 a0_1] 23 (0, 0))) ∧ Aside0 (Below w.heap.size w wc))
   case first =>
    have H := HC14.out
    clear HC14
    by_cases c16 : (t215.length : Int) = (l1.length : Int)
    ·rw [if_pos c16] at H
     have c16b0 : ((t215.length : Int) == (l1.length : Int)) = true := beq_iff_eq.mpr c16
     have c16b1 : ((t215.length : Int) != (l1.length : Int)) = false := bne_eq_false_iff_eq.mpr c16
     have c16b2 : (t215.length == l1.length) = true := by first | simpa using c16 | (simp at c16 ⊢; omega)
     clear c16
     (first | rw [c16b0] | (simp only [i64_w, i32_w]; rw [c16b0]) | skip)
     have H' := Aside0.mk H
     clear H
     go_wp2
     go_meet
     case rel => exact ⟨_, H', ⟨by have := HJ3.out; first | omega | exact Nat.le_refl _⟩, ⟨by (with_reducible repeat (first | apply Kd.R_alloc | apply Kd.R_drewN | apply Kd.R_drew)); exact HO_5.out⟩, ⟨by (with_reducible repeat (first | refine blk_drewN ?_ _ | refine blk_drew ?_ | refine blk_alloc ?_ _)); exact BK214.out⟩, ⟨by repeat (first | (with_reducible first | exact HB.out | apply below_alloc | apply pw_below_drewN | apply below_drew1 | refine below_set ?_ GE214.out) | exact HB.out)⟩⟩
    ·rw [if_neg c16] at H
     have c16b0 : ((t215.length : Int) == (l1.length : Int)) = false := beq_eq_false_iff_ne.mpr c16
     have c16b1 : ((t215.length : Int) != (l1.length : Int)) = true := bne_iff_ne.mpr c16
     have c16b2 : (t215.length == l1.length) = false := by first | simpa using c16 | (simp at c16 ⊢; omega)
     (first | rw [c16b0] | (simp only [i64_w, i32_w]; rw [c16b0]) | skip)
     obtain rfl := Option.some.inj H
     go_wp2
     go_ret
     exact ⟨by first | rfl | (simp [errW_none, errW_some] <;> rfl) | (simp [*, errW_none, errW_some] <;> rfl), by repeat (first | (with_reducible first | exact HB.out | apply below_alloc | apply pw_below_drewN | apply below_drew1 | refine below_set ?_ GE214.out) | exact HB.out)⟩
   case rest =>
    clear HC14
    try clear c1
    try clear p2
    try clear c6
    try clear c8
    try clear c8b0
    try clear c8b1
    try clear c9
    try clear c9b0
    try clear c9b1
    try clear c9b2
    try clear c13
    try clear c16
    try clear c16b0
    try clear c16b1
    try clear c16b2
    try clear hcz6_0
    try clear hcz6_1
    try clear hfz6_0
    try clear hfz6_1
    try clear p2
    obtain ⟨kq, HA, HJ13, HO_5, BK214, HB⟩ := hcut
    cases kq with
    | zero => exact absurd HA.out (by simp [signalbenchlaw20_ScrambleRoundTrips.j1])
    | succ kj13 =>
     have H := HA.out
     clear HA
     simp only [signalbenchlaw20_ScrambleRoundTrips.j1] at H
     have H' := Aside0.mk H
     clear H
     go_wp2
     go_loopg [7, 8, 9] kj13 (fun kq v7 v8 v9 w' => ∃ (x7_3 : ByteArray) (x8_3 : ByteArray) (x9_3 : Int), v7 = .string x7_3 ∧ v8 = .string x8_3 ∧ v9 = .int .i64 x9_3 ∧ Aside0 (signalbenchlaw20_ScrambleRoundTrips.l0 kq l1 t215 x7_3 x8_3 x9_3 a0_0 a0_1 = some r) ∧ Aside0 (kq ≤ kj13) ∧ Aside0 (Kd.R k46 46 w' w.heap.size (fun _ => True) (.slice Ao15 t215.length co15) t215) ∧ Aside0 (w'.heap[gb214]? = some (.cells #[.int .i64 a0_0, .int .i64 a0_1] 23 (0, 0))) ∧ Aside0 (Below w.heap.size w w'))
     case atStart => exact ⟨((⟨#[]⟩ : ByteArray)), ((⟨#[]⟩ : ByteArray)), (0), (by first | rfl | (simp; done) | (simp [*]; done)), (by first | rfl | (simp; done) | (simp [*]; done)), (by first | rfl | (simp; done) | (simp [*]; done)), H', ⟨Nat.le_refl _⟩, ⟨by (with_reducible repeat (first | apply Kd.R_alloc | apply Kd.R_drewN | apply Kd.R_drew)); exact HO_5.out⟩, ⟨by (with_reducible repeat (first | refine blk_drewN ?_ _ | refine blk_drew ?_ | refine blk_alloc ?_ _)); exact BK214.out⟩, ⟨by repeat (first | (with_reducible first | exact HB.out | apply below_alloc | apply pw_below_drewN | apply below_drew1 | refine below_set ?_ GE214.out) | exact HB.out)⟩⟩
     case round =>
      clear H'
      try clear c1
      try clear p2
      try clear c6
      try clear c8
      try clear c8b0
      try clear c8b1
      try clear c9
      try clear c9b0
      try clear c9b1
      try clear c9b2
      try clear c13
      try clear c16
      try clear c16b0
      try clear c16b1
      try clear c16b2
      try clear hcz6_0
      try clear hcz6_1
      try clear hfz6_0
      try clear hfz6_1
      try clear p2
      obtain ⟨x7_3, x8_3, x9_3, rfl, rfl, rfl, HA, HK3, HO_5, BK214, HB⟩ := hrel
      cases gk with
      | zero => exact absurd HA.out (by simp [signalbenchlaw20_ScrambleRoundTrips.l0])
      | succ k3 =>
       have H := HA.out
       clear HA
       simp only [signalbenchlaw20_ScrambleRoundTrips.l0] at H
       by_cases c17 : x9_3 < (l1.length : Int)
       ·rw [if_pos c17] at H
        have c17b0 : decide (x9_3 < (l1.length : Int)) = true := decide_eq_true c17
        clear c17
        have HC18 := Aside0.mk H
        clear H
        go_upto_region 11 with (fail)
        go_cut [84] (fun v84 wc => ∃ (kq : Nat) (x84_17 : Bool), v84 = .bool x84_17 ∧ Aside0 (signalbenchlaw20_ScrambleRoundTrips.j3 kq l1 t215 x7_3 x8_3 x9_3 x84_17 a0_0 a0_1 = some r) ∧ Aside0 (kq ≤ k3) ∧ Aside0 (Kd.R k46 46 wc w.heap.size (fun _ => True) (.slice Ao15 t215.length co15) t215) ∧ Aside0 (wc.heap[gb214]? = some (.cells #[.int .i64 a0_0, .int .i64 a0_1] 23 (0, 0))) ∧ Aside0 (Below w.heap.size w wc))
        case first =>
         have H := HC18.out
         clear HC18
         by_cases c19 : 0 ≤ x9_3
         ·rw [if_pos c19] at H
          have c19b0 : decide (0 ≤ x9_3) = true := decide_eq_true c19
          clear c19
          (first | rw [c19b0] | (simp only [i64_w, i32_w]; rw [c19b0]) | skip)
          by_cases c20 : x9_3 < (t215.length : Int)
          ·rw [if_pos c20] at H
           have c20b0 : decide (x9_3 < (t215.length : Int)) = true := decide_eq_true c20
           clear c20
           by_cases c21 : ((rd_T46 t215 x9_3).f0) = ((rd_T46 l1 x9_3).f0)
           ·rw [if_pos c21] at H
            have c21b0 : (((rd_T46 t215 x9_3).f0) == ((rd_T46 l1 x9_3).f0)) = true := beq_iff_eq.mpr c21
            have c21b1 : (((rd_T46 t215 x9_3).f0) != ((rd_T46 l1 x9_3).f0)) = false := bne_eq_false_iff_eq.mpr c21
            clear c21
            by_cases c22 : (((rd_T46 t215 x9_3).f3).size : Int) = (((rd_T46 l1 x9_3).f3).size : Int)
            ·rw [if_pos c22] at H
             have c22b0 : ((((rd_T46 t215 x9_3).f3).size : Int) == (((rd_T46 l1 x9_3).f3).size : Int)) = true := beq_iff_eq.mpr c22
             have c22b1 : ((((rd_T46 t215 x9_3).f3).size : Int) != (((rd_T46 l1 x9_3).f3).size : Int)) = false := bne_eq_false_iff_eq.mpr c22
             have c22b2 : (((rd_T46 t215 x9_3).f3).size == ((rd_T46 l1 x9_3).f3).size) = true := by first | simpa using c22 | (simp at c22 ⊢; omega)
             clear c22
             by_cases c23 : ((rd_T46 t215 x9_3).f1) = 0
             ·rw [if_pos c23] at H
              have c23b0 : (((rd_T46 t215 x9_3).f1) == 0) = true := beq_iff_eq.mpr c23
              have c23b1 : (((rd_T46 t215 x9_3).f1) != 0) = false := bne_eq_false_iff_eq.mpr c23
              clear c23
              by_cases c24 : ((rd_T46 t215 x9_3).f2) = 0
              ·rw [if_pos c24] at H
               have c24b0 : (((rd_T46 t215 x9_3).f2) == 0) = true := beq_iff_eq.mpr c24
               have c24b1 : (((rd_T46 t215 x9_3).f2) != 0) = false := bne_eq_false_iff_eq.mpr c24
               clear c24
               have H' := Aside0.mk H
               clear H
               try go_wp2
               have n0_ := Aside0.mk (Kd.R_drew HO_5.out)
               have n1_ := Aside0.mk (blk_drew BK214.out)
               have n2_ := Aside0.mk (below_drew1 HB.out)
               clear HO_5
               clear BK214
               clear HB
               have HO_5 := n0_
               have BK214 := n1_
               have HB := n2_
               clear n0_ n1_ n2_
               have p220 : 0 ≤ (x9_3 : Int) := of_decide_eq_true (by first | (with_reducible assumption) | assumption)
               have q220 : x9_3 < (t215.length : Int) := of_decide_eq_true (by first | (with_reducible assumption) | assumption)
               obtain ⟨ad220, e220, hx220_0, hx220_1, hx220_2, hx220_3, hx220_4⟩ := at_T46 (Kd.R_reads' HO_5.out).2.2 x9_3 p220 q220
               cases e220
               replace p220 := eq_true p220
               replace q220 := eq_true q220
               have p221 : 0 ≤ (x9_3 : Int) := of_decide_eq_true (by first | (with_reducible assumption) | assumption)
               have q221 : x9_3 < (l1.length : Int) := of_decide_eq_true (by first | (with_reducible assumption) | assumption)
               obtain ⟨ad221, e221, hx221_0, hx221_1, hx221_2, hx221_3, hx221_4⟩ := at_T46 HR1.out x9_3 p221 q221
               have hw221_4 := hx221_4
               have hw221_3 := hx221_3
               have hw221_2 := hx221_2
               have hw221_1 := hx221_1
               have hw221_0 := hx221_0
               cases e221
               replace hx221_0 := (HB.out.cell (World.block_lt_of_cell? w _ hx221_0)).trans hx221_0
               replace hx221_1 := (HB.out.cell (World.block_lt_of_cell? w _ hx221_1)).trans hx221_1
               replace hx221_2 := (HB.out.cell (World.block_lt_of_cell? w _ hx221_2)).trans hx221_2
               replace hx221_3 := (HB.out.cell (World.block_lt_of_cell? w _ hx221_3)).trans hx221_3
               replace hx221_4 := (HB.out.cell (World.block_lt_of_cell? w _ hx221_4)).trans hx221_4
               replace p221 := eq_true p221
               replace q221 := eq_true q221
               have p222 : 0 ≤ (x9_3 : Int) := of_decide_eq_true (by first | (with_reducible assumption) | assumption)
               have q222 : x9_3 < (t215.length : Int) := of_decide_eq_true (by first | (with_reducible assumption) | assumption)
               obtain ⟨ad222, e222, hx222_0, hx222_1, hx222_2, hx222_3, hx222_4⟩ := at_T46 (Kd.R_reads' HO_5.out).2.2 x9_3 p222 q222
               obtain rfl : ad220 = ad222 := (by injection e222)
               replace p222 := eq_true p222
               replace q222 := eq_true q222
               have p223 : 0 ≤ (x9_3 : Int) := of_decide_eq_true (by first | (with_reducible assumption) | assumption)
               have q223 : x9_3 < (l1.length : Int) := of_decide_eq_true (by first | (with_reducible assumption) | assumption)
               obtain ⟨ad223, e223, hx223_0, hx223_1, hx223_2, hx223_3, hx223_4⟩ := at_T46 HR1.out x9_3 p223 q223
               have hw223_4 := hx223_4
               have hw223_3 := hx223_3
               have hw223_2 := hx223_2
               have hw223_1 := hx223_1
               have hw223_0 := hx223_0
               obtain rfl : ad221 = ad223 := (by injection e223)
               replace hx223_0 := (HB.out.cell (World.block_lt_of_cell? w _ hx223_0)).trans hx223_0
               replace hx223_1 := (HB.out.cell (World.block_lt_of_cell? w _ hx223_1)).trans hx223_1
               replace hx223_2 := (HB.out.cell (World.block_lt_of_cell? w _ hx223_2)).trans hx223_2
               replace hx223_3 := (HB.out.cell (World.block_lt_of_cell? w _ hx223_3)).trans hx223_3
               replace hx223_4 := (HB.out.cell (World.block_lt_of_cell? w _ hx223_4)).trans hx223_4
               replace p223 := eq_true p223
               replace q223 := eq_true q223
               have p224 : 0 ≤ (x9_3 : Int) := of_decide_eq_true (by first | (with_reducible assumption) | assumption)
               have q224 : x9_3 < (t215.length : Int) := of_decide_eq_true (by first | (with_reducible assumption) | assumption)
               obtain ⟨ad224, e224, hx224_0, hx224_1, hx224_2, hx224_3, hx224_4⟩ := at_T46 (Kd.R_reads' HO_5.out).2.2 x9_3 p224 q224
               obtain rfl : ad220 = ad224 := (by injection e224)
               replace p224 := eq_true p224
               replace q224 := eq_true q224
               have p225 : 0 ≤ (x9_3 : Int) := of_decide_eq_true (by first | (with_reducible assumption) | assumption)
               have q225 : x9_3 < (t215.length : Int) := of_decide_eq_true (by first | (with_reducible assumption) | assumption)
               obtain ⟨ad225, e225, hx225_0, hx225_1, hx225_2, hx225_3, hx225_4⟩ := at_T46 (Kd.R_reads' HO_5.out).2.2 x9_3 p225 q225
               obtain rfl : ad220 = ad225 := (by injection e225)
               replace p225 := eq_true p225
               replace q225 := eq_true q225
               have p226 : 0 ≤ (x9_3 : Int) := of_decide_eq_true (by first | (with_reducible assumption) | assumption)
               have q226 : x9_3 < (t215.length : Int) := of_decide_eq_true (by first | (with_reducible assumption) | assumption)
               obtain ⟨ad226, e226, hx226_0, hx226_1, hx226_2, hx226_3, hx226_4⟩ := at_T46 (Kd.R_reads' HO_5.out).2.2 x9_3 p226 q226
               obtain rfl : ad220 = ad226 := (by injection e226)
               replace p226 := eq_true p226
               replace q226 := eq_true q226
               refine start_ (n := 50) (S := fun w' => w'.cell? (ad220.add ((x9_3).toNat * 5)) = some (.int .i64 ((rd_T46 t215 x9_3).f0)) ∧ w'.cell? ⟨(ad220.add ((x9_3).toNat * 5)).block, (ad220.add ((x9_3).toNat * 5)).off + 1, none⟩ = some (.int .i64 ((rd_T46 t215 x9_3).f1)) ∧ w'.cell? ⟨(ad220.add ((x9_3).toNat * 5)).block, (ad220.add ((x9_3).toNat * 5)).off + 2, none⟩ = some (.int .i64 ((rd_T46 t215 x9_3).f2)) ∧ w'.cell? ⟨(ad220.add ((x9_3).toNat * 5)).block, (ad220.add ((x9_3).toNat * 5)).off + 3, none⟩ = some (.string ((rd_T46 t215 x9_3).f3)) ∧ w'.cell? ⟨(ad220.add ((x9_3).toNat * 5)).block, (ad220.add ((x9_3).toNat * 5)).off + 4, none⟩ = some (.int .i64 ((rd_T46 t215 x9_3).f4)) ∧ w'.cell? (ad221.add ((x9_3).toNat * 5)) = some (.int .i64 ((rd_T46 l1 x9_3).f0)) ∧ w'.cell? ⟨(ad221.add ((x9_3).toNat * 5)).block, (ad221.add ((x9_3).toNat * 5)).off + 1, none⟩ = some (.int .i64 ((rd_T46 l1 x9_3).f1)) ∧ w'.cell? ⟨(ad221.add ((x9_3).toNat * 5)).block, (ad221.add ((x9_3).toNat * 5)).off + 2, none⟩ = some (.int .i64 ((rd_T46 l1 x9_3).f2)) ∧ w'.cell? ⟨(ad221.add ((x9_3).toNat * 5)).block, (ad221.add ((x9_3).toNat * 5)).off + 3, none⟩ = some (.string ((rd_T46 l1 x9_3).f3)) ∧ w'.cell? ⟨(ad221.add ((x9_3).toNat * 5)).block, (ad221.add ((x9_3).toNat * 5)).off + 4, none⟩ = some (.int .i64 ((rd_T46 l1 x9_3).f4)) ∧ w'.cell? (ad220.add ((x9_3).toNat * 5)) = some (.int .i64 ((rd_T46 t215 x9_3).f0)) ∧ w'.cell? ⟨(ad220.add ((x9_3).toNat * 5)).block, (ad220.add ((x9_3).toNat * 5)).off + 1, none⟩ = some (.int .i64 ((rd_T46 t215 x9_3).f1)) ∧ w'.cell? ⟨(ad220.add ((x9_3).toNat * 5)).block, (ad220.add ((x9_3).toNat * 5)).off + 2, none⟩ = some (.int .i64 ((rd_T46 t215 x9_3).f2)) ∧ w'.cell? ⟨(ad220.add ((x9_3).toNat * 5)).block, (ad220.add ((x9_3).toNat * 5)).off + 3, none⟩ = some (.string ((rd_T46 t215 x9_3).f3)) ∧ w'.cell? ⟨(ad220.add ((x9_3).toNat * 5)).block, (ad220.add ((x9_3).toNat * 5)).off + 4, none⟩ = some (.int .i64 ((rd_T46 t215 x9_3).f4)) ∧ w'.cell? (ad221.add ((x9_3).toNat * 5)) = some (.int .i64 ((rd_T46 l1 x9_3).f0)) ∧ w'.cell? ⟨(ad221.add ((x9_3).toNat * 5)).block, (ad221.add ((x9_3).toNat * 5)).off + 1, none⟩ = some (.int .i64 ((rd_T46 l1 x9_3).f1)) ∧ w'.cell? ⟨(ad221.add ((x9_3).toNat * 5)).block, (ad221.add ((x9_3).toNat * 5)).off + 2, none⟩ = some (.int .i64 ((rd_T46 l1 x9_3).f2)) ∧ w'.cell? ⟨(ad221.add ((x9_3).toNat * 5)).block, (ad221.add ((x9_3).toNat * 5)).off + 3, none⟩ = some (.string ((rd_T46 l1 x9_3).f3)) ∧ w'.cell? ⟨(ad221.add ((x9_3).toNat * 5)).block, (ad221.add ((x9_3).toNat * 5)).off + 4, none⟩ = some (.int .i64 ((rd_T46 l1 x9_3).f4)) ∧ w'.cell? (ad220.add ((x9_3).toNat * 5)) = some (.int .i64 ((rd_T46 t215 x9_3).f0)) ∧ w'.cell? ⟨(ad220.add ((x9_3).toNat * 5)).block, (ad220.add ((x9_3).toNat * 5)).off + 1, none⟩ = some (.int .i64 ((rd_T46 t215 x9_3).f1)) ∧ w'.cell? ⟨(ad220.add ((x9_3).toNat * 5)).block, (ad220.add ((x9_3).toNat * 5)).off + 2, none⟩ = some (.int .i64 ((rd_T46 t215 x9_3).f2)) ∧ w'.cell? ⟨(ad220.add ((x9_3).toNat * 5)).block, (ad220.add ((x9_3).toNat * 5)).off + 3, none⟩ = some (.string ((rd_T46 t215 x9_3).f3)) ∧ w'.cell? ⟨(ad220.add ((x9_3).toNat * 5)).block, (ad220.add ((x9_3).toNat * 5)).off + 4, none⟩ = some (.int .i64 ((rd_T46 t215 x9_3).f4)) ∧ w'.cell? (ad220.add ((x9_3).toNat * 5)) = some (.int .i64 ((rd_T46 t215 x9_3).f0)) ∧ w'.cell? ⟨(ad220.add ((x9_3).toNat * 5)).block, (ad220.add ((x9_3).toNat * 5)).off + 1, none⟩ = some (.int .i64 ((rd_T46 t215 x9_3).f1)) ∧ w'.cell? ⟨(ad220.add ((x9_3).toNat * 5)).block, (ad220.add ((x9_3).toNat * 5)).off + 2, none⟩ = some (.int .i64 ((rd_T46 t215 x9_3).f2)) ∧ w'.cell? ⟨(ad220.add ((x9_3).toNat * 5)).block, (ad220.add ((x9_3).toNat * 5)).off + 3, none⟩ = some (.string ((rd_T46 t215 x9_3).f3)) ∧ w'.cell? ⟨(ad220.add ((x9_3).toNat * 5)).block, (ad220.add ((x9_3).toNat * 5)).off + 4, none⟩ = some (.int .i64 ((rd_T46 t215 x9_3).f4)) ∧ w'.cell? (ad220.add ((x9_3).toNat * 5)) = some (.int .i64 ((rd_T46 t215 x9_3).f0)) ∧ w'.cell? ⟨(ad220.add ((x9_3).toNat * 5)).block, (ad220.add ((x9_3).toNat * 5)).off + 1, none⟩ = some (.int .i64 ((rd_T46 t215 x9_3).f1)) ∧ w'.cell? ⟨(ad220.add ((x9_3).toNat * 5)).block, (ad220.add ((x9_3).toNat * 5)).off + 2, none⟩ = some (.int .i64 ((rd_T46 t215 x9_3).f2)) ∧ w'.cell? ⟨(ad220.add ((x9_3).toNat * 5)).block, (ad220.add ((x9_3).toNat * 5)).off + 3, none⟩ = some (.string ((rd_T46 t215 x9_3).f3)) ∧ w'.cell? ⟨(ad220.add ((x9_3).toNat * 5)).block, (ad220.add ((x9_3).toNat * 5)).off + 4, none⟩ = some (.int .i64 ((rd_T46 t215 x9_3).f4))) (ds := []) #[false, false, false, false, false, false, false, false, false, false, false, false, false, false, false, false, false, false, false, false, false, false, false, false, false, false, false, false, false, false, false, false, false, false, false, false, false, false, false, false, false, false, false, false, false, false, false, false, false, false] (by kernel_rfl) rfl rfl ⟨hx220_0, hx220_1, hx220_2, hx220_3, hx220_4, ((HB.out.cell (World.block_lt_of_cell? w _ hw221_0)).trans hw221_0), ((HB.out.cell (World.block_lt_of_cell? w _ hw221_1)).trans hw221_1), ((HB.out.cell (World.block_lt_of_cell? w _ hw221_2)).trans hw221_2), ((HB.out.cell (World.block_lt_of_cell? w _ hw221_3)).trans hw221_3), ((HB.out.cell (World.block_lt_of_cell? w _ hw221_4)).trans hw221_4), hx222_0, hx222_1, hx222_2, hx222_3, hx222_4, ((HB.out.cell (World.block_lt_of_cell? w _ hw223_0)).trans hw223_0), ((HB.out.cell (World.block_lt_of_cell? w _ hw223_1)).trans hw223_1), ((HB.out.cell (World.block_lt_of_cell? w _ hw223_2)).trans hw223_2), ((HB.out.cell (World.block_lt_of_cell? w _ hw223_3)).trans hw223_3), ((HB.out.cell (World.block_lt_of_cell? w _ hw223_4)).trans hw223_4), hx224_0, hx224_1, hx224_2, hx224_3, hx224_4, hx225_0, hx225_1, hx225_2, hx225_3, hx225_4, hx226_0, hx226_1, hx226_2, hx226_3, hx226_4⟩ (fun hHeld => ?_); refine with_tabW signalbenchlaw20_ScrambleRoundTrips.tab11 signalbenchlaw20_ScrambleRoundTrips.bits11 (fun HT_ HW_ => ?_)
               generalize wr.drew = w25 at HO_5 BK214 HB hx220_0 hx220_1 hx220_2 hx220_3 hx220_4 hx221_0 hx221_1 hx221_2 hx221_3 hx221_4 hx222_0 hx222_1 hx222_2 hx222_3 hx222_4 hx223_0 hx223_1 hx223_2 hx223_3 hx223_4 hx224_0 hx224_1 hx224_2 hx224_3 hx224_4 hx225_0 hx225_1 hx225_2 hx225_3 hx225_4 hx226_0 hx226_1 hx226_2 hx226_3 hx226_4 hHeld ⊢
               refine pstep 0 (some 35) #[true, false, false, false, false, false, false, false, false, false, false, false, false, false, false, false, false, false, false, false, false, false, false, false, false, false, false, false, false, false, false, false, false, false, false, false, false, false, false, false, false, false, false, false, false, false, false, false, false, false] HT_.out ?_
               refine pstep 1 (some 36) #[true, true, false, false, false, false, false, false, false, false, false, false, false, false, false, false, false, false, false, false, false, false, false, false, false, false, false, false, false, false, false, false, false, false, false, false, false, false, false, false, false, false, false, false, false, false, false, false, false, false] HT_.out ?_
               refine pstep 2 (some 37) #[true, true, true, false, false, false, false, false, false, false, false, false, false, false, false, false, false, false, false, false, false, false, false, false, false, false, false, false, false, false, false, false, false, false, false, false, false, false, false, false, false, false, false, false, false, false, false, false, false, false] HT_.out ?_
               refine pstep 3 (some 38) #[true, true, true, true, false, false, false, false, false, false, false, false, false, false, false, false, false, false, false, false, false, false, false, false, false, false, false, false, false, false, false, false, false, false, false, false, false, false, false, false, false, false, false, false, false, false, false, false, false, false] HT_.out ?_
               refine pstep 5 (some 40) #[true, true, true, true, false, true, false, false, false, false, false, false, false, false, false, false, false, false, false, false, false, false, false, false, false, false, false, false, false, false, false, false, false, false, false, false, false, false, false, false, false, false, false, false, false, false, false, false, false, false] HT_.out ?_
               refine pstep 6 (some 41) #[true, true, true, true, false, true, true, false, false, false, false, false, false, false, false, false, false, false, false, false, false, false, false, false, false, false, false, false, false, false, false, false, false, false, false, false, false, false, false, false, false, false, false, false, false, false, false, false, false, false] HT_.out ?_
               refine pstep 7 (some 42) #[true, true, true, true, false, true, true, true, false, false, false, false, false, false, false, false, false, false, false, false, false, false, false, false, false, false, false, false, false, false, false, false, false, false, false, false, false, false, false, false, false, false, false, false, false, false, false, false, false, false] HT_.out ?_
               refine pstep 8 (some 43) #[true, true, true, true, false, true, true, true, true, false, false, false, false, false, false, false, false, false, false, false, false, false, false, false, false, false, false, false, false, false, false, false, false, false, false, false, false, false, false, false, false, false, false, false, false, false, false, false, false, false] HT_.out ?_
               refine take_ (i := 4) (N := some 39) (v := ?_) (a' := ?_) #[true, true, true, true, true, true, true, true, true, false, false, false, false, false, false, false, false, false, false, false, false, false, false, false, false, false, false, false, false, false, false, false, false, false, false, false, false, false, false, false, false, false, false, false, false, false, false, false, false, false] rfl rfl (take_ofW HT_.out HW_.out (by kernel_rfl)) (fun _ _ _ h => h) (Or.inl ⟨by rfl, ?_⟩) hHeld ?_ ?_
               rotate_left
               ·rintro w' ⟨s0, s1, s2, s3, s4, s5, s6, s7, s8, s9, s10, s11, s12, s13, s14, s15, s16, s17, s18, s19, s20, s21, s22, s23, s24, s25, s26, s27, s28, s29, s30, s31, s32, s33, s34⟩
                go_simp
                with_reducible rfl
               rotate_left
               ·simp only [Act.put, nrm]
                rfl
               refine take_ (i := 9) (N := some 44) (v := ?_) (a' := ?_) #[true, true, true, true, true, true, true, true, true, true, false, false, false, false, false, false, false, false, false, false, false, false, false, false, false, false, false, false, false, false, false, false, false, false, false, false, false, false, false, false, false, false, false, false, false, false, false, false, false, false] rfl rfl (take_ofW HT_.out HW_.out (by kernel_rfl)) (fun _ _ _ h => h) (Or.inl ⟨by rfl, ?_⟩) hHeld ?_ ?_
               rotate_left
               ·rintro w' ⟨s0, s1, s2, s3, s4, s5, s6, s7, s8, s9, s10, s11, s12, s13, s14, s15, s16, s17, s18, s19, s20, s21, s22, s23, s24, s25, s26, s27, s28, s29, s30, s31, s32, s33, s34⟩
                go_simp
                with_reducible rfl
               rotate_left
               ·simp only [Act.put, nrm]
                rfl
               refine pstep 10 (some 45) #[true, true, true, true, true, true, true, true, true, true, true, false, false, false, false, false, false, false, false, false, false, false, false, false, false, false, false, false, false, false, false, false, false, false, false, false, false, false, false, false, false, false, false, false, false, false, false, false, false, false] HT_.out ?_
               refine pstep 11 (some 46) #[true, true, true, true, true, true, true, true, true, true, true, true, false, false, false, false, false, false, false, false, false, false, false, false, false, false, false, false, false, false, false, false, false, false, false, false, false, false, false, false, false, false, false, false, false, false, false, false, false, false] HT_.out ?_
               refine pstep 12 (some 47) #[true, true, true, true, true, true, true, true, true, true, true, true, true, false, false, false, false, false, false, false, false, false, false, false, false, false, false, false, false, false, false, false, false, false, false, false, false, false, false, false, false, false, false, false, false, false, false, false, false, false] HT_.out ?_
               refine pstep 13 (some 48) #[true, true, true, true, true, true, true, true, true, true, true, true, true, true, false, false, false, false, false, false, false, false, false, false, false, false, false, false, false, false, false, false, false, false, false, false, false, false, false, false, false, false, false, false, false, false, false, false, false, false] HT_.out ?_
               refine pstep 14 (some 49) #[true, true, true, true, true, true, true, true, true, true, true, true, true, true, true, false, false, false, false, false, false, false, false, false, false, false, false, false, false, false, false, false, false, false, false, false, false, false, false, false, false, false, false, false, false, false, false, false, false, false] HT_.out ?_
               refine pstep 15 (some 50) #[true, true, true, true, true, true, true, true, true, true, true, true, true, true, true, true, false, false, false, false, false, false, false, false, false, false, false, false, false, false, false, false, false, false, false, false, false, false, false, false, false, false, false, false, false, false, false, false, false, false] HT_.out ?_
               refine pstep 18 (some 53) #[true, true, true, true, true, true, true, true, true, true, true, true, true, true, true, true, false, false, true, false, false, false, false, false, false, false, false, false, false, false, false, false, false, false, false, false, false, false, false, false, false, false, false, false, false, false, false, false, false, false] HT_.out ?_
               refine pstep 19 (some 54) #[true, true, true, true, true, true, true, true, true, true, true, true, true, true, true, true, false, false, true, true, false, false, false, false, false, false, false, false, false, false, false, false, false, false, false, false, false, false, false, false, false, false, false, false, false, false, false, false, false, false] HT_.out ?_
               refine pstep 20 (some 55) #[true, true, true, true, true, true, true, true, true, true, true, true, true, true, true, true, false, false, true, true, true, false, false, false, false, false, false, false, false, false, false, false, false, false, false, false, false, false, false, false, false, false, false, false, false, false, false, false, false, false] HT_.out ?_
               refine pstep 21 (some 56) #[true, true, true, true, true, true, true, true, true, true, true, true, true, true, true, true, false, false, true, true, true, true, false, false, false, false, false, false, false, false, false, false, false, false, false, false, false, false, false, false, false, false, false, false, false, false, false, false, false, false] HT_.out ?_
               refine take_ (i := 16) (N := some 51) (v := ?_) (a' := ?_) #[true, true, true, true, true, true, true, true, true, true, true, true, true, true, true, true, true, false, true, true, true, true, false, false, false, false, false, false, false, false, false, false, false, false, false, false, false, false, false, false, false, false, false, false, false, false, false, false, false, false] rfl rfl (take_ofW HT_.out HW_.out (by kernel_rfl)) (fun _ _ _ h => h) (Or.inl ⟨by rfl, ?_⟩) hHeld ?_ ?_
               rotate_left
               ·rintro w' ⟨s0, s1, s2, s3, s4, s5, s6, s7, s8, s9, s10, s11, s12, s13, s14, s15, s16, s17, s18, s19, s20, s21, s22, s23, s24, s25, s26, s27, s28, s29, s30, s31, s32, s33, s34⟩
                go_simp
                with_reducible rfl
               rotate_left
               ·simp only [Act.put, nrm]
                rfl
               refine pstep 17 (some 52) #[true, true, true, true, true, true, true, true, true, true, true, true, true, true, true, true, true, true, true, true, true, true, false, false, false, false, false, false, false, false, false, false, false, false, false, false, false, false, false, false, false, false, false, false, false, false, false, false, false, false] HT_.out ?_
               refine take_ (i := 22) (N := some 57) (v := ?_) (a' := ?_) #[true, true, true, true, true, true, true, true, true, true, true, true, true, true, true, true, true, true, true, true, true, true, true, false, false, false, false, false, false, false, false, false, false, false, false, false, false, false, false, false, false, false, false, false, false, false, false, false, false, false] rfl rfl (take_ofW HT_.out HW_.out (by kernel_rfl)) (fun _ _ _ h => h) (Or.inl ⟨by rfl, ?_⟩) hHeld ?_ ?_
               rotate_left
               ·rintro w' ⟨s0, s1, s2, s3, s4, s5, s6, s7, s8, s9, s10, s11, s12, s13, s14, s15, s16, s17, s18, s19, s20, s21, s22, s23, s24, s25, s26, s27, s28, s29, s30, s31, s32, s33, s34⟩
                go_simp
                with_reducible rfl
               rotate_left
               ·simp only [Act.put, nrm]
                rfl
               refine pstep 23 (some 58) #[true, true, true, true, true, true, true, true, true, true, true, true, true, true, true, true, true, true, true, true, true, true, true, true, false, false, false, false, false, false, false, false, false, false, false, false, false, false, false, false, false, false, false, false, false, false, false, false, false, false] HT_.out ?_
               refine pstep 24 (some 59) #[true, true, true, true, true, true, true, true, true, true, true, true, true, true, true, true, true, true, true, true, true, true, true, true, true, false, false, false, false, false, false, false, false, false, false, false, false, false, false, false, false, false, false, false, false, false, false, false, false, false] HT_.out ?_
               refine pstep 25 (some 60) #[true, true, true, true, true, true, true, true, true, true, true, true, true, true, true, true, true, true, true, true, true, true, true, true, true, true, false, false, false, false, false, false, false, false, false, false, false, false, false, false, false, false, false, false, false, false, false, false, false, false] HT_.out ?_
               refine pstep 26 (some 61) #[true, true, true, true, true, true, true, true, true, true, true, true, true, true, true, true, true, true, true, true, true, true, true, true, true, true, true, false, false, false, false, false, false, false, false, false, false, false, false, false, false, false, false, false, false, false, false, false, false, false] HT_.out ?_
               refine pstep 27 (some 62) #[true, true, true, true, true, true, true, true, true, true, true, true, true, true, true, true, true, true, true, true, true, true, true, true, true, true, true, true, false, false, false, false, false, false, false, false, false, false, false, false, false, false, false, false, false, false, false, false, false, false] HT_.out ?_
               refine pstep 28 (some 63) #[true, true, true, true, true, true, true, true, true, true, true, true, true, true, true, true, true, true, true, true, true, true, true, true, true, true, true, true, true, false, false, false, false, false, false, false, false, false, false, false, false, false, false, false, false, false, false, false, false, false] HT_.out ?_
               refine pstep 29 (some 64) #[true, true, true, true, true, true, true, true, true, true, true, true, true, true, true, true, true, true, true, true, true, true, true, true, true, true, true, true, true, true, false, false, false, false, false, false, false, false, false, false, false, false, false, false, false, false, false, false, false, false] HT_.out ?_
               refine pstep 30 (some 65) #[true, true, true, true, true, true, true, true, true, true, true, true, true, true, true, true, true, true, true, true, true, true, true, true, true, true, true, true, true, true, true, false, false, false, false, false, false, false, false, false, false, false, false, false, false, false, false, false, false, false] HT_.out ?_
               refine take_ (i := 31) (N := some 66) (v := ?_) (a' := ?_) #[true, true, true, true, true, true, true, true, true, true, true, true, true, true, true, true, true, true, true, true, true, true, true, true, true, true, true, true, true, true, true, true, false, false, false, false, false, false, false, false, false, false, false, false, false, false, false, false, false, false] rfl rfl (take_ofW HT_.out HW_.out (by kernel_rfl)) (fun _ _ _ h => h) (Or.inl ⟨by rfl, ?_⟩) hHeld ?_ ?_
               rotate_left
               ·rintro w' ⟨s0, s1, s2, s3, s4, s5, s6, s7, s8, s9, s10, s11, s12, s13, s14, s15, s16, s17, s18, s19, s20, s21, s22, s23, s24, s25, s26, s27, s28, s29, s30, s31, s32, s33, s34⟩
                go_simp
                with_reducible rfl
               rotate_left
               ·simp only [Act.put, nrm]
                rfl
               refine pstep 32 (some 67) #[true, true, true, true, true, true, true, true, true, true, true, true, true, true, true, true, true, true, true, true, true, true, true, true, true, true, true, true, true, true, true, true, true, false, false, false, false, false, false, false, false, false, false, false, false, false, false, false, false, false] HT_.out ?_
               refine pstep 33 (some 68) #[true, true, true, true, true, true, true, true, true, true, true, true, true, true, true, true, true, true, true, true, true, true, true, true, true, true, true, true, true, true, true, true, true, true, false, false, false, false, false, false, false, false, false, false, false, false, false, false, false, false] HT_.out ?_
               refine pstep 34 (some 69) #[true, true, true, true, true, true, true, true, true, true, true, true, true, true, true, true, true, true, true, true, true, true, true, true, true, true, true, true, true, true, true, true, true, true, true, false, false, false, false, false, false, false, false, false, false, false, false, false, false, false] HT_.out ?_
               refine pstep 35 (some 70) #[true, true, true, true, true, true, true, true, true, true, true, true, true, true, true, true, true, true, true, true, true, true, true, true, true, true, true, true, true, true, true, true, true, true, true, true, false, false, false, false, false, false, false, false, false, false, false, false, false, false] HT_.out ?_
               refine pstep 36 (some 71) #[true, true, true, true, true, true, true, true, true, true, true, true, true, true, true, true, true, true, true, true, true, true, true, true, true, true, true, true, true, true, true, true, true, true, true, true, true, false, false, false, false, false, false, false, false, false, false, false, false, false] HT_.out ?_
               refine pstep 37 (some 72) #[true, true, true, true, true, true, true, true, true, true, true, true, true, true, true, true, true, true, true, true, true, true, true, true, true, true, true, true, true, true, true, true, true, true, true, true, true, true, false, false, false, false, false, false, false, false, false, false, false, false] HT_.out ?_
               refine pstep 38 (some 73) #[true, true, true, true, true, true, true, true, true, true, true, true, true, true, true, true, true, true, true, true, true, true, true, true, true, true, true, true, true, true, true, true, true, true, true, true, true, true, true, false, false, false, false, false, false, false, false, false, false, false] HT_.out ?_
               refine take_ (i := 39) (N := some 74) (v := ?_) (a' := ?_) #[true, true, true, true, true, true, true, true, true, true, true, true, true, true, true, true, true, true, true, true, true, true, true, true, true, true, true, true, true, true, true, true, true, true, true, true, true, true, true, true, false, false, false, false, false, false, false, false, false, false] rfl rfl (take_ofW HT_.out HW_.out (by kernel_rfl)) (fun _ _ _ h => h) (Or.inl ⟨by rfl, ?_⟩) hHeld ?_ ?_
               rotate_left
               ·rintro w' ⟨s0, s1, s2, s3, s4, s5, s6, s7, s8, s9, s10, s11, s12, s13, s14, s15, s16, s17, s18, s19, s20, s21, s22, s23, s24, s25, s26, s27, s28, s29, s30, s31, s32, s33, s34⟩
                go_simp
                with_reducible rfl
               rotate_left
               ·simp only [Act.put, nrm]
                rfl
               refine pstep 40 (some 75) #[true, true, true, true, true, true, true, true, true, true, true, true, true, true, true, true, true, true, true, true, true, true, true, true, true, true, true, true, true, true, true, true, true, true, true, true, true, true, true, true, true, false, false, false, false, false, false, false, false, false] HT_.out ?_
               refine pstep 41 (some 76) #[true, true, true, true, true, true, true, true, true, true, true, true, true, true, true, true, true, true, true, true, true, true, true, true, true, true, true, true, true, true, true, true, true, true, true, true, true, true, true, true, true, true, false, false, false, false, false, false, false, false] HT_.out ?_
               refine pstep 42 (some 77) #[true, true, true, true, true, true, true, true, true, true, true, true, true, true, true, true, true, true, true, true, true, true, true, true, true, true, true, true, true, true, true, true, true, true, true, true, true, true, true, true, true, true, true, false, false, false, false, false, false, false] HT_.out ?_
               refine pstep 43 (some 78) #[true, true, true, true, true, true, true, true, true, true, true, true, true, true, true, true, true, true, true, true, true, true, true, true, true, true, true, true, true, true, true, true, true, true, true, true, true, true, true, true, true, true, true, true, false, false, false, false, false, false] HT_.out ?_
               refine pstep 44 (some 79) #[true, true, true, true, true, true, true, true, true, true, true, true, true, true, true, true, true, true, true, true, true, true, true, true, true, true, true, true, true, true, true, true, true, true, true, true, true, true, true, true, true, true, true, true, true, false, false, false, false, false] HT_.out ?_
               refine pstep 45 (some 80) #[true, true, true, true, true, true, true, true, true, true, true, true, true, true, true, true, true, true, true, true, true, true, true, true, true, true, true, true, true, true, true, true, true, true, true, true, true, true, true, true, true, true, true, true, true, true, false, false, false, false] HT_.out ?_
               refine pstep 46 (some 81) #[true, true, true, true, true, true, true, true, true, true, true, true, true, true, true, true, true, true, true, true, true, true, true, true, true, true, true, true, true, true, true, true, true, true, true, true, true, true, true, true, true, true, true, true, true, true, true, false, false, false] HT_.out ?_
               refine take_ (i := 47) (N := some 82) (v := ?_) (a' := ?_) #[true, true, true, true, true, true, true, true, true, true, true, true, true, true, true, true, true, true, true, true, true, true, true, true, true, true, true, true, true, true, true, true, true, true, true, true, true, true, true, true, true, true, true, true, true, true, true, true, false, false] rfl rfl (take_ofW HT_.out HW_.out (by kernel_rfl)) (fun _ _ _ h => h) (Or.inl ⟨by rfl, ?_⟩) hHeld ?_ ?_
               rotate_left
               ·rintro w' ⟨s0, s1, s2, s3, s4, s5, s6, s7, s8, s9, s10, s11, s12, s13, s14, s15, s16, s17, s18, s19, s20, s21, s22, s23, s24, s25, s26, s27, s28, s29, s30, s31, s32, s33, s34⟩
                go_simp
                with_reducible rfl
               rotate_left
               ·simp only [Act.put, nrm]
                rfl
               refine pstep 48 (some 83) #[true, true, true, true, true, true, true, true, true, true, true, true, true, true, true, true, true, true, true, true, true, true, true, true, true, true, true, true, true, true, true, true, true, true, true, true, true, true, true, true, true, true, true, true, true, true, true, true, true, false] HT_.out ?_
               refine pstep 49 (some 84) #[true, true, true, true, true, true, true, true, true, true, true, true, true, true, true, true, true, true, true, true, true, true, true, true, true, true, true, true, true, true, true, true, true, true, true, true, true, true, true, true, true, true, true, true, true, true, true, true, true, true] HT_.out ?_
               refine done_ (done_of HT_.out (by kernel_rfl)) ?_
               try go_wp2
               go_meet
               case rel => exact ⟨_, ((((rd_T46 t215 x9_3).f4) != 0)), (by first | rfl | (simp; done) | (simp [*]; done)), H', ⟨by have := HJ3.out; have := HJ13.out; have := HK3.out; first | omega | exact Nat.le_refl _⟩, ⟨by (with_reducible repeat (first | apply Kd.R_alloc | apply Kd.R_drewN | apply Kd.R_drew)); exact HO_5.out⟩, ⟨by (with_reducible repeat (first | refine blk_drewN ?_ _ | refine blk_drew ?_ | refine blk_alloc ?_ _)); exact BK214.out⟩, ⟨by repeat (first | (with_reducible first | exact HB.out | apply below_alloc | apply pw_below_drewN | apply below_drew1 | refine below_set ?_ GE214.out) | exact HB.out)⟩⟩
              ·rw [if_neg c24] at H
               have c24b0 : (((rd_T46 t215 x9_3).f2) == 0) = false := beq_eq_false_iff_ne.mpr c24
               have c24b1 : (((rd_T46 t215 x9_3).f2) != 0) = true := bne_iff_ne.mpr c24
               have H' := Aside0.mk H
               clear H
               try go_wp2
               have n0_ := Aside0.mk (Kd.R_drew HO_5.out)
               have n1_ := Aside0.mk (blk_drew BK214.out)
               have n2_ := Aside0.mk (below_drew1 HB.out)
               clear HO_5
               clear BK214
               clear HB
               have HO_5 := n0_
               have BK214 := n1_
               have HB := n2_
               clear n0_ n1_ n2_
               have p220 : 0 ≤ (x9_3 : Int) := of_decide_eq_true (by first | (with_reducible assumption) | assumption)
               have q220 : x9_3 < (t215.length : Int) := of_decide_eq_true (by first | (with_reducible assumption) | assumption)
               obtain ⟨ad220, e220, hx220_0, hx220_1, hx220_2, hx220_3, hx220_4⟩ := at_T46 (Kd.R_reads' HO_5.out).2.2 x9_3 p220 q220
               cases e220
               replace p220 := eq_true p220
               replace q220 := eq_true q220
               have p221 : 0 ≤ (x9_3 : Int) := of_decide_eq_true (by first | (with_reducible assumption) | assumption)
               have q221 : x9_3 < (l1.length : Int) := of_decide_eq_true (by first | (with_reducible assumption) | assumption)
               obtain ⟨ad221, e221, hx221_0, hx221_1, hx221_2, hx221_3, hx221_4⟩ := at_T46 HR1.out x9_3 p221 q221
               have hw221_4 := hx221_4
               have hw221_3 := hx221_3
               have hw221_2 := hx221_2
               have hw221_1 := hx221_1
               have hw221_0 := hx221_0
               cases e221
               replace hx221_0 := (HB.out.cell (World.block_lt_of_cell? w _ hx221_0)).trans hx221_0
               replace hx221_1 := (HB.out.cell (World.block_lt_of_cell? w _ hx221_1)).trans hx221_1
               replace hx221_2 := (HB.out.cell (World.block_lt_of_cell? w _ hx221_2)).trans hx221_2
               replace hx221_3 := (HB.out.cell (World.block_lt_of_cell? w _ hx221_3)).trans hx221_3
               replace hx221_4 := (HB.out.cell (World.block_lt_of_cell? w _ hx221_4)).trans hx221_4
               replace p221 := eq_true p221
               replace q221 := eq_true q221
               have p222 : 0 ≤ (x9_3 : Int) := of_decide_eq_true (by first | (with_reducible assumption) | assumption)
               have q222 : x9_3 < (t215.length : Int) := of_decide_eq_true (by first | (with_reducible assumption) | assumption)
               obtain ⟨ad222, e222, hx222_0, hx222_1, hx222_2, hx222_3, hx222_4⟩ := at_T46 (Kd.R_reads' HO_5.out).2.2 x9_3 p222 q222
               obtain rfl : ad220 = ad222 := (by injection e222)
               replace p222 := eq_true p222
               replace q222 := eq_true q222
               have p223 : 0 ≤ (x9_3 : Int) := of_decide_eq_true (by first | (with_reducible assumption) | assumption)
               have q223 : x9_3 < (l1.length : Int) := of_decide_eq_true (by first | (with_reducible assumption) | assumption)
               obtain ⟨ad223, e223, hx223_0, hx223_1, hx223_2, hx223_3, hx223_4⟩ := at_T46 HR1.out x9_3 p223 q223
               have hw223_4 := hx223_4
               have hw223_3 := hx223_3
               have hw223_2 := hx223_2
               have hw223_1 := hx223_1
               have hw223_0 := hx223_0
               obtain rfl : ad221 = ad223 := (by injection e223)
               replace hx223_0 := (HB.out.cell (World.block_lt_of_cell? w _ hx223_0)).trans hx223_0
               replace hx223_1 := (HB.out.cell (World.block_lt_of_cell? w _ hx223_1)).trans hx223_1
               replace hx223_2 := (HB.out.cell (World.block_lt_of_cell? w _ hx223_2)).trans hx223_2
               replace hx223_3 := (HB.out.cell (World.block_lt_of_cell? w _ hx223_3)).trans hx223_3
               replace hx223_4 := (HB.out.cell (World.block_lt_of_cell? w _ hx223_4)).trans hx223_4
               replace p223 := eq_true p223
               replace q223 := eq_true q223
               have p224 : 0 ≤ (x9_3 : Int) := of_decide_eq_true (by first | (with_reducible assumption) | assumption)
               have q224 : x9_3 < (t215.length : Int) := of_decide_eq_true (by first | (with_reducible assumption) | assumption)
               obtain ⟨ad224, e224, hx224_0, hx224_1, hx224_2, hx224_3, hx224_4⟩ := at_T46 (Kd.R_reads' HO_5.out).2.2 x9_3 p224 q224
               obtain rfl : ad220 = ad224 := (by injection e224)
               replace p224 := eq_true p224
               replace q224 := eq_true q224
               have p225 : 0 ≤ (x9_3 : Int) := of_decide_eq_true (by first | (with_reducible assumption) | assumption)
               have q225 : x9_3 < (t215.length : Int) := of_decide_eq_true (by first | (with_reducible assumption) | assumption)
               obtain ⟨ad225, e225, hx225_0, hx225_1, hx225_2, hx225_3, hx225_4⟩ := at_T46 (Kd.R_reads' HO_5.out).2.2 x9_3 p225 q225
               obtain rfl : ad220 = ad225 := (by injection e225)
               replace p225 := eq_true p225
               replace q225 := eq_true q225
               refine start_ (n := 50) (S := fun w' => w'.cell? (ad220.add ((x9_3).toNat * 5)) = some (.int .i64 ((rd_T46 t215 x9_3).f0)) ∧ w'.cell? ⟨(ad220.add ((x9_3).toNat * 5)).block, (ad220.add ((x9_3).toNat * 5)).off + 1, none⟩ = some (.int .i64 ((rd_T46 t215 x9_3).f1)) ∧ w'.cell? ⟨(ad220.add ((x9_3).toNat * 5)).block, (ad220.add ((x9_3).toNat * 5)).off + 2, none⟩ = some (.int .i64 ((rd_T46 t215 x9_3).f2)) ∧ w'.cell? ⟨(ad220.add ((x9_3).toNat * 5)).block, (ad220.add ((x9_3).toNat * 5)).off + 3, none⟩ = some (.string ((rd_T46 t215 x9_3).f3)) ∧ w'.cell? ⟨(ad220.add ((x9_3).toNat * 5)).block, (ad220.add ((x9_3).toNat * 5)).off + 4, none⟩ = some (.int .i64 ((rd_T46 t215 x9_3).f4)) ∧ w'.cell? (ad221.add ((x9_3).toNat * 5)) = some (.int .i64 ((rd_T46 l1 x9_3).f0)) ∧ w'.cell? ⟨(ad221.add ((x9_3).toNat * 5)).block, (ad221.add ((x9_3).toNat * 5)).off + 1, none⟩ = some (.int .i64 ((rd_T46 l1 x9_3).f1)) ∧ w'.cell? ⟨(ad221.add ((x9_3).toNat * 5)).block, (ad221.add ((x9_3).toNat * 5)).off + 2, none⟩ = some (.int .i64 ((rd_T46 l1 x9_3).f2)) ∧ w'.cell? ⟨(ad221.add ((x9_3).toNat * 5)).block, (ad221.add ((x9_3).toNat * 5)).off + 3, none⟩ = some (.string ((rd_T46 l1 x9_3).f3)) ∧ w'.cell? ⟨(ad221.add ((x9_3).toNat * 5)).block, (ad221.add ((x9_3).toNat * 5)).off + 4, none⟩ = some (.int .i64 ((rd_T46 l1 x9_3).f4)) ∧ w'.cell? (ad220.add ((x9_3).toNat * 5)) = some (.int .i64 ((rd_T46 t215 x9_3).f0)) ∧ w'.cell? ⟨(ad220.add ((x9_3).toNat * 5)).block, (ad220.add ((x9_3).toNat * 5)).off + 1, none⟩ = some (.int .i64 ((rd_T46 t215 x9_3).f1)) ∧ w'.cell? ⟨(ad220.add ((x9_3).toNat * 5)).block, (ad220.add ((x9_3).toNat * 5)).off + 2, none⟩ = some (.int .i64 ((rd_T46 t215 x9_3).f2)) ∧ w'.cell? ⟨(ad220.add ((x9_3).toNat * 5)).block, (ad220.add ((x9_3).toNat * 5)).off + 3, none⟩ = some (.string ((rd_T46 t215 x9_3).f3)) ∧ w'.cell? ⟨(ad220.add ((x9_3).toNat * 5)).block, (ad220.add ((x9_3).toNat * 5)).off + 4, none⟩ = some (.int .i64 ((rd_T46 t215 x9_3).f4)) ∧ w'.cell? (ad221.add ((x9_3).toNat * 5)) = some (.int .i64 ((rd_T46 l1 x9_3).f0)) ∧ w'.cell? ⟨(ad221.add ((x9_3).toNat * 5)).block, (ad221.add ((x9_3).toNat * 5)).off + 1, none⟩ = some (.int .i64 ((rd_T46 l1 x9_3).f1)) ∧ w'.cell? ⟨(ad221.add ((x9_3).toNat * 5)).block, (ad221.add ((x9_3).toNat * 5)).off + 2, none⟩ = some (.int .i64 ((rd_T46 l1 x9_3).f2)) ∧ w'.cell? ⟨(ad221.add ((x9_3).toNat * 5)).block, (ad221.add ((x9_3).toNat * 5)).off + 3, none⟩ = some (.string ((rd_T46 l1 x9_3).f3)) ∧ w'.cell? ⟨(ad221.add ((x9_3).toNat * 5)).block, (ad221.add ((x9_3).toNat * 5)).off + 4, none⟩ = some (.int .i64 ((rd_T46 l1 x9_3).f4)) ∧ w'.cell? (ad220.add ((x9_3).toNat * 5)) = some (.int .i64 ((rd_T46 t215 x9_3).f0)) ∧ w'.cell? ⟨(ad220.add ((x9_3).toNat * 5)).block, (ad220.add ((x9_3).toNat * 5)).off + 1, none⟩ = some (.int .i64 ((rd_T46 t215 x9_3).f1)) ∧ w'.cell? ⟨(ad220.add ((x9_3).toNat * 5)).block, (ad220.add ((x9_3).toNat * 5)).off + 2, none⟩ = some (.int .i64 ((rd_T46 t215 x9_3).f2)) ∧ w'.cell? ⟨(ad220.add ((x9_3).toNat * 5)).block, (ad220.add ((x9_3).toNat * 5)).off + 3, none⟩ = some (.string ((rd_T46 t215 x9_3).f3)) ∧ w'.cell? ⟨(ad220.add ((x9_3).toNat * 5)).block, (ad220.add ((x9_3).toNat * 5)).off + 4, none⟩ = some (.int .i64 ((rd_T46 t215 x9_3).f4)) ∧ w'.cell? (ad220.add ((x9_3).toNat * 5)) = some (.int .i64 ((rd_T46 t215 x9_3).f0)) ∧ w'.cell? ⟨(ad220.add ((x9_3).toNat * 5)).block, (ad220.add ((x9_3).toNat * 5)).off + 1, none⟩ = some (.int .i64 ((rd_T46 t215 x9_3).f1)) ∧ w'.cell? ⟨(ad220.add ((x9_3).toNat * 5)).block, (ad220.add ((x9_3).toNat * 5)).off + 2, none⟩ = some (.int .i64 ((rd_T46 t215 x9_3).f2)) ∧ w'.cell? ⟨(ad220.add ((x9_3).toNat * 5)).block, (ad220.add ((x9_3).toNat * 5)).off + 3, none⟩ = some (.string ((rd_T46 t215 x9_3).f3)) ∧ w'.cell? ⟨(ad220.add ((x9_3).toNat * 5)).block, (ad220.add ((x9_3).toNat * 5)).off + 4, none⟩ = some (.int .i64 ((rd_T46 t215 x9_3).f4))) (ds := []) #[false, false, false, false, false, false, false, false, false, false, false, false, false, false, false, false, false, false, false, false, false, false, false, false, false, false, false, false, false, false, false, false, false, false, false, false, false, false, false, false, false, false, false, false, false, false, false, false, false, false] (by kernel_rfl) rfl rfl ⟨hx220_0, hx220_1, hx220_2, hx220_3, hx220_4, ((HB.out.cell (World.block_lt_of_cell? w _ hw221_0)).trans hw221_0), ((HB.out.cell (World.block_lt_of_cell? w _ hw221_1)).trans hw221_1), ((HB.out.cell (World.block_lt_of_cell? w _ hw221_2)).trans hw221_2), ((HB.out.cell (World.block_lt_of_cell? w _ hw221_3)).trans hw221_3), ((HB.out.cell (World.block_lt_of_cell? w _ hw221_4)).trans hw221_4), hx222_0, hx222_1, hx222_2, hx222_3, hx222_4, ((HB.out.cell (World.block_lt_of_cell? w _ hw223_0)).trans hw223_0), ((HB.out.cell (World.block_lt_of_cell? w _ hw223_1)).trans hw223_1), ((HB.out.cell (World.block_lt_of_cell? w _ hw223_2)).trans hw223_2), ((HB.out.cell (World.block_lt_of_cell? w _ hw223_3)).trans hw223_3), ((HB.out.cell (World.block_lt_of_cell? w _ hw223_4)).trans hw223_4), hx224_0, hx224_1, hx224_2, hx224_3, hx224_4, hx225_0, hx225_1, hx225_2, hx225_3, hx225_4⟩ (fun hHeld => ?_); refine with_tabW signalbenchlaw20_ScrambleRoundTrips.tab11 signalbenchlaw20_ScrambleRoundTrips.bits11 (fun HT_ HW_ => ?_)
               generalize wr.drew = w26 at HO_5 BK214 HB hx220_0 hx220_1 hx220_2 hx220_3 hx220_4 hx221_0 hx221_1 hx221_2 hx221_3 hx221_4 hx222_0 hx222_1 hx222_2 hx222_3 hx222_4 hx223_0 hx223_1 hx223_2 hx223_3 hx223_4 hx224_0 hx224_1 hx224_2 hx224_3 hx224_4 hx225_0 hx225_1 hx225_2 hx225_3 hx225_4 hHeld ⊢
               refine pstep 0 (some 35) #[true, false, false, false, false, false, false, false, false, false, false, false, false, false, false, false, false, false, false, false, false, false, false, false, false, false, false, false, false, false, false, false, false, false, false, false, false, false, false, false, false, false, false, false, false, false, false, false, false, false] HT_.out ?_
               refine pstep 1 (some 36) #[true, true, false, false, false, false, false, false, false, false, false, false, false, false, false, false, false, false, false, false, false, false, false, false, false, false, false, false, false, false, false, false, false, false, false, false, false, false, false, false, false, false, false, false, false, false, false, false, false, false] HT_.out ?_
               refine pstep 2 (some 37) #[true, true, true, false, false, false, false, false, false, false, false, false, false, false, false, false, false, false, false, false, false, false, false, false, false, false, false, false, false, false, false, false, false, false, false, false, false, false, false, false, false, false, false, false, false, false, false, false, false, false] HT_.out ?_
               refine pstep 3 (some 38) #[true, true, true, true, false, false, false, false, false, false, false, false, false, false, false, false, false, false, false, false, false, false, false, false, false, false, false, false, false, false, false, false, false, false, false, false, false, false, false, false, false, false, false, false, false, false, false, false, false, false] HT_.out ?_
               refine pstep 5 (some 40) #[true, true, true, true, false, true, false, false, false, false, false, false, false, false, false, false, false, false, false, false, false, false, false, false, false, false, false, false, false, false, false, false, false, false, false, false, false, false, false, false, false, false, false, false, false, false, false, false, false, false] HT_.out ?_
               refine pstep 6 (some 41) #[true, true, true, true, false, true, true, false, false, false, false, false, false, false, false, false, false, false, false, false, false, false, false, false, false, false, false, false, false, false, false, false, false, false, false, false, false, false, false, false, false, false, false, false, false, false, false, false, false, false] HT_.out ?_
               refine pstep 7 (some 42) #[true, true, true, true, false, true, true, true, false, false, false, false, false, false, false, false, false, false, false, false, false, false, false, false, false, false, false, false, false, false, false, false, false, false, false, false, false, false, false, false, false, false, false, false, false, false, false, false, false, false] HT_.out ?_
               refine pstep 8 (some 43) #[true, true, true, true, false, true, true, true, true, false, false, false, false, false, false, false, false, false, false, false, false, false, false, false, false, false, false, false, false, false, false, false, false, false, false, false, false, false, false, false, false, false, false, false, false, false, false, false, false, false] HT_.out ?_
               refine take_ (i := 4) (N := some 39) (v := ?_) (a' := ?_) #[true, true, true, true, true, true, true, true, true, false, false, false, false, false, false, false, false, false, false, false, false, false, false, false, false, false, false, false, false, false, false, false, false, false, false, false, false, false, false, false, false, false, false, false, false, false, false, false, false, false] rfl rfl (take_ofW HT_.out HW_.out (by kernel_rfl)) (fun _ _ _ h => h) (Or.inl ⟨by rfl, ?_⟩) hHeld ?_ ?_
               rotate_left
               ·rintro w' ⟨s0, s1, s2, s3, s4, s5, s6, s7, s8, s9, s10, s11, s12, s13, s14, s15, s16, s17, s18, s19, s20, s21, s22, s23, s24, s25, s26, s27, s28, s29⟩
                go_simp
                with_reducible rfl
               rotate_left
               ·simp only [Act.put, nrm]
                rfl
               refine take_ (i := 9) (N := some 44) (v := ?_) (a' := ?_) #[true, true, true, true, true, true, true, true, true, true, false, false, false, false, false, false, false, false, false, false, false, false, false, false, false, false, false, false, false, false, false, false, false, false, false, false, false, false, false, false, false, false, false, false, false, false, false, false, false, false] rfl rfl (take_ofW HT_.out HW_.out (by kernel_rfl)) (fun _ _ _ h => h) (Or.inl ⟨by rfl, ?_⟩) hHeld ?_ ?_
               rotate_left
               ·rintro w' ⟨s0, s1, s2, s3, s4, s5, s6, s7, s8, s9, s10, s11, s12, s13, s14, s15, s16, s17, s18, s19, s20, s21, s22, s23, s24, s25, s26, s27, s28, s29⟩
                go_simp
                with_reducible rfl
               rotate_left
               ·simp only [Act.put, nrm]
                rfl
               refine pstep 10 (some 45) #[true, true, true, true, true, true, true, true, true, true, true, false, false, false, false, false, false, false, false, false, false, false, false, false, false, false, false, false, false, false, false, false, false, false, false, false, false, false, false, false, false, false, false, false, false, false, false, false, false, false] HT_.out ?_
               refine pstep 11 (some 46) #[true, true, true, true, true, true, true, true, true, true, true, true, false, false, false, false, false, false, false, false, false, false, false, false, false, false, false, false, false, false, false, false, false, false, false, false, false, false, false, false, false, false, false, false, false, false, false, false, false, false] HT_.out ?_
               refine pstep 12 (some 47) #[true, true, true, true, true, true, true, true, true, true, true, true, true, false, false, false, false, false, false, false, false, false, false, false, false, false, false, false, false, false, false, false, false, false, false, false, false, false, false, false, false, false, false, false, false, false, false, false, false, false] HT_.out ?_
               refine pstep 13 (some 48) #[true, true, true, true, true, true, true, true, true, true, true, true, true, true, false, false, false, false, false, false, false, false, false, false, false, false, false, false, false, false, false, false, false, false, false, false, false, false, false, false, false, false, false, false, false, false, false, false, false, false] HT_.out ?_
               refine pstep 14 (some 49) #[true, true, true, true, true, true, true, true, true, true, true, true, true, true, true, false, false, false, false, false, false, false, false, false, false, false, false, false, false, false, false, false, false, false, false, false, false, false, false, false, false, false, false, false, false, false, false, false, false, false] HT_.out ?_
               refine pstep 15 (some 50) #[true, true, true, true, true, true, true, true, true, true, true, true, true, true, true, true, false, false, false, false, false, false, false, false, false, false, false, false, false, false, false, false, false, false, false, false, false, false, false, false, false, false, false, false, false, false, false, false, false, false] HT_.out ?_
               refine pstep 18 (some 53) #[true, true, true, true, true, true, true, true, true, true, true, true, true, true, true, true, false, false, true, false, false, false, false, false, false, false, false, false, false, false, false, false, false, false, false, false, false, false, false, false, false, false, false, false, false, false, false, false, false, false] HT_.out ?_
               refine pstep 19 (some 54) #[true, true, true, true, true, true, true, true, true, true, true, true, true, true, true, true, false, false, true, true, false, false, false, false, false, false, false, false, false, false, false, false, false, false, false, false, false, false, false, false, false, false, false, false, false, false, false, false, false, false] HT_.out ?_
               refine pstep 20 (some 55) #[true, true, true, true, true, true, true, true, true, true, true, true, true, true, true, true, false, false, true, true, true, false, false, false, false, false, false, false, false, false, false, false, false, false, false, false, false, false, false, false, false, false, false, false, false, false, false, false, false, false] HT_.out ?_
               refine pstep 21 (some 56) #[true, true, true, true, true, true, true, true, true, true, true, true, true, true, true, true, false, false, true, true, true, true, false, false, false, false, false, false, false, false, false, false, false, false, false, false, false, false, false, false, false, false, false, false, false, false, false, false, false, false] HT_.out ?_
               refine take_ (i := 16) (N := some 51) (v := ?_) (a' := ?_) #[true, true, true, true, true, true, true, true, true, true, true, true, true, true, true, true, true, false, true, true, true, true, false, false, false, false, false, false, false, false, false, false, false, false, false, false, false, false, false, false, false, false, false, false, false, false, false, false, false, false] rfl rfl (take_ofW HT_.out HW_.out (by kernel_rfl)) (fun _ _ _ h => h) (Or.inl ⟨by rfl, ?_⟩) hHeld ?_ ?_
               rotate_left
               ·rintro w' ⟨s0, s1, s2, s3, s4, s5, s6, s7, s8, s9, s10, s11, s12, s13, s14, s15, s16, s17, s18, s19, s20, s21, s22, s23, s24, s25, s26, s27, s28, s29⟩
                go_simp
                with_reducible rfl
               rotate_left
               ·simp only [Act.put, nrm]
                rfl
               refine pstep 17 (some 52) #[true, true, true, true, true, true, true, true, true, true, true, true, true, true, true, true, true, true, true, true, true, true, false, false, false, false, false, false, false, false, false, false, false, false, false, false, false, false, false, false, false, false, false, false, false, false, false, false, false, false] HT_.out ?_
               refine take_ (i := 22) (N := some 57) (v := ?_) (a' := ?_) #[true, true, true, true, true, true, true, true, true, true, true, true, true, true, true, true, true, true, true, true, true, true, true, false, false, false, false, false, false, false, false, false, false, false, false, false, false, false, false, false, false, false, false, false, false, false, false, false, false, false] rfl rfl (take_ofW HT_.out HW_.out (by kernel_rfl)) (fun _ _ _ h => h) (Or.inl ⟨by rfl, ?_⟩) hHeld ?_ ?_
               rotate_left
               ·rintro w' ⟨s0, s1, s2, s3, s4, s5, s6, s7, s8, s9, s10, s11, s12, s13, s14, s15, s16, s17, s18, s19, s20, s21, s22, s23, s24, s25, s26, s27, s28, s29⟩
                go_simp
                with_reducible rfl
               rotate_left
               ·simp only [Act.put, nrm]
                rfl
               refine pstep 23 (some 58) #[true, true, true, true, true, true, true, true, true, true, true, true, true, true, true, true, true, true, true, true, true, true, true, true, false, false, false, false, false, false, false, false, false, false, false, false, false, false, false, false, false, false, false, false, false, false, false, false, false, false] HT_.out ?_
               refine pstep 24 (some 59) #[true, true, true, true, true, true, true, true, true, true, true, true, true, true, true, true, true, true, true, true, true, true, true, true, true, false, false, false, false, false, false, false, false, false, false, false, false, false, false, false, false, false, false, false, false, false, false, false, false, false] HT_.out ?_
               refine pstep 25 (some 60) #[true, true, true, true, true, true, true, true, true, true, true, true, true, true, true, true, true, true, true, true, true, true, true, true, true, true, false, false, false, false, false, false, false, false, false, false, false, false, false, false, false, false, false, false, false, false, false, false, false, false] HT_.out ?_
               refine pstep 26 (some 61) #[true, true, true, true, true, true, true, true, true, true, true, true, true, true, true, true, true, true, true, true, true, true, true, true, true, true, true, false, false, false, false, false, false, false, false, false, false, false, false, false, false, false, false, false, false, false, false, false, false, false] HT_.out ?_
               refine pstep 27 (some 62) #[true, true, true, true, true, true, true, true, true, true, true, true, true, true, true, true, true, true, true, true, true, true, true, true, true, true, true, true, false, false, false, false, false, false, false, false, false, false, false, false, false, false, false, false, false, false, false, false, false, false] HT_.out ?_
               refine pstep 28 (some 63) #[true, true, true, true, true, true, true, true, true, true, true, true, true, true, true, true, true, true, true, true, true, true, true, true, true, true, true, true, true, false, false, false, false, false, false, false, false, false, false, false, false, false, false, false, false, false, false, false, false, false] HT_.out ?_
               refine pstep 29 (some 64) #[true, true, true, true, true, true, true, true, true, true, true, true, true, true, true, true, true, true, true, true, true, true, true, true, true, true, true, true, true, true, false, false, false, false, false, false, false, false, false, false, false, false, false, false, false, false, false, false, false, false] HT_.out ?_
               refine pstep 30 (some 65) #[true, true, true, true, true, true, true, true, true, true, true, true, true, true, true, true, true, true, true, true, true, true, true, true, true, true, true, true, true, true, true, false, false, false, false, false, false, false, false, false, false, false, false, false, false, false, false, false, false, false] HT_.out ?_
               refine take_ (i := 31) (N := some 66) (v := ?_) (a' := ?_) #[true, true, true, true, true, true, true, true, true, true, true, true, true, true, true, true, true, true, true, true, true, true, true, true, true, true, true, true, true, true, true, true, false, false, false, false, false, false, false, false, false, false, false, false, false, false, false, false, false, false] rfl rfl (take_ofW HT_.out HW_.out (by kernel_rfl)) (fun _ _ _ h => h) (Or.inl ⟨by rfl, ?_⟩) hHeld ?_ ?_
               rotate_left
               ·rintro w' ⟨s0, s1, s2, s3, s4, s5, s6, s7, s8, s9, s10, s11, s12, s13, s14, s15, s16, s17, s18, s19, s20, s21, s22, s23, s24, s25, s26, s27, s28, s29⟩
                go_simp
                with_reducible rfl
               rotate_left
               ·simp only [Act.put, nrm]
                rfl
               refine pstep 32 (some 67) #[true, true, true, true, true, true, true, true, true, true, true, true, true, true, true, true, true, true, true, true, true, true, true, true, true, true, true, true, true, true, true, true, true, false, false, false, false, false, false, false, false, false, false, false, false, false, false, false, false, false] HT_.out ?_
               refine pstep 33 (some 68) #[true, true, true, true, true, true, true, true, true, true, true, true, true, true, true, true, true, true, true, true, true, true, true, true, true, true, true, true, true, true, true, true, true, true, false, false, false, false, false, false, false, false, false, false, false, false, false, false, false, false] HT_.out ?_
               refine pstep 34 (some 69) #[true, true, true, true, true, true, true, true, true, true, true, true, true, true, true, true, true, true, true, true, true, true, true, true, true, true, true, true, true, true, true, true, true, true, true, false, false, false, false, false, false, false, false, false, false, false, false, false, false, false] HT_.out ?_
               refine pstep 35 (some 70) #[true, true, true, true, true, true, true, true, true, true, true, true, true, true, true, true, true, true, true, true, true, true, true, true, true, true, true, true, true, true, true, true, true, true, true, true, false, false, false, false, false, false, false, false, false, false, false, false, false, false] HT_.out ?_
               refine pstep 36 (some 71) #[true, true, true, true, true, true, true, true, true, true, true, true, true, true, true, true, true, true, true, true, true, true, true, true, true, true, true, true, true, true, true, true, true, true, true, true, true, false, false, false, false, false, false, false, false, false, false, false, false, false] HT_.out ?_
               refine pstep 37 (some 72) #[true, true, true, true, true, true, true, true, true, true, true, true, true, true, true, true, true, true, true, true, true, true, true, true, true, true, true, true, true, true, true, true, true, true, true, true, true, true, false, false, false, false, false, false, false, false, false, false, false, false] HT_.out ?_
               refine pstep 38 (some 73) #[true, true, true, true, true, true, true, true, true, true, true, true, true, true, true, true, true, true, true, true, true, true, true, true, true, true, true, true, true, true, true, true, true, true, true, true, true, true, true, false, false, false, false, false, false, false, false, false, false, false] HT_.out ?_
               refine take_ (i := 39) (N := some 74) (v := ?_) (a' := ?_) #[true, true, true, true, true, true, true, true, true, true, true, true, true, true, true, true, true, true, true, true, true, true, true, true, true, true, true, true, true, true, true, true, true, true, true, true, true, true, true, true, false, false, false, false, false, false, false, false, false, false] rfl rfl (take_ofW HT_.out HW_.out (by kernel_rfl)) (fun _ _ _ h => h) (Or.inl ⟨by rfl, ?_⟩) hHeld ?_ ?_
               rotate_left
               ·rintro w' ⟨s0, s1, s2, s3, s4, s5, s6, s7, s8, s9, s10, s11, s12, s13, s14, s15, s16, s17, s18, s19, s20, s21, s22, s23, s24, s25, s26, s27, s28, s29⟩
                go_simp
                with_reducible rfl
               rotate_left
               ·simp only [Act.put, nrm]
                rfl
               refine pstep 40 (some 75) #[true, true, true, true, true, true, true, true, true, true, true, true, true, true, true, true, true, true, true, true, true, true, true, true, true, true, true, true, true, true, true, true, true, true, true, true, true, true, true, true, true, false, false, false, false, false, false, false, false, false] HT_.out ?_
               refine pstep 41 (some 76) #[true, true, true, true, true, true, true, true, true, true, true, true, true, true, true, true, true, true, true, true, true, true, true, true, true, true, true, true, true, true, true, true, true, true, true, true, true, true, true, true, true, true, false, false, false, false, false, false, false, false] HT_.out ?_
               refine pstep 42 (some 77) #[true, true, true, true, true, true, true, true, true, true, true, true, true, true, true, true, true, true, true, true, true, true, true, true, true, true, true, true, true, true, true, true, true, true, true, true, true, true, true, true, true, true, true, false, false, false, false, false, false, false] HT_.out ?_
               refine pure_ (i := 43) (N := some 78) (v := undef) (a' := ?_) #[true, true, true, true, true, true, true, true, true, true, true, true, true, true, true, true, true, true, true, true, true, true, true, true, true, true, true, true, true, true, true, true, true, true, true, true, true, true, true, true, true, true, true, true, false, false, false, false, false, false] rfl rfl (any_of HT_.out (by kernel_rfl)) (fun _ _ _ h => h) (Or.inr ⟨by rfl, rfl⟩) ?_ ?_
               rotate_left
               ·simp only [Act.put, nrm]
                rfl
               refine pure_ (i := 44) (N := some 79) (v := undef) (a' := ?_) #[true, true, true, true, true, true, true, true, true, true, true, true, true, true, true, true, true, true, true, true, true, true, true, true, true, true, true, true, true, true, true, true, true, true, true, true, true, true, true, true, true, true, true, true, true, false, false, false, false, false] rfl rfl (any_of HT_.out (by kernel_rfl)) (fun _ _ _ h => h) (Or.inr ⟨by rfl, rfl⟩) ?_ ?_
               rotate_left
               ·simp only [Act.put, nrm]
                rfl
               refine pure_ (i := 45) (N := some 80) (v := undef) (a' := ?_) #[true, true, true, true, true, true, true, true, true, true, true, true, true, true, true, true, true, true, true, true, true, true, true, true, true, true, true, true, true, true, true, true, true, true, true, true, true, true, true, true, true, true, true, true, true, true, false, false, false, false] rfl rfl (any_of HT_.out (by kernel_rfl)) (fun _ _ _ h => h) (Or.inr ⟨by rfl, rfl⟩) ?_ ?_
               rotate_left
               ·simp only [Act.put, nrm]
                rfl
               refine pure_ (i := 46) (N := some 81) (v := undef) (a' := ?_) #[true, true, true, true, true, true, true, true, true, true, true, true, true, true, true, true, true, true, true, true, true, true, true, true, true, true, true, true, true, true, true, true, true, true, true, true, true, true, true, true, true, true, true, true, true, true, true, false, false, false] rfl rfl (any_of HT_.out (by kernel_rfl)) (fun _ _ _ h => h) (Or.inr ⟨by rfl, rfl⟩) ?_ ?_
               rotate_left
               ·simp only [Act.put, nrm]
                rfl
               refine pure_ (i := 47) (N := some 82) (v := undef) (a' := ?_) #[true, true, true, true, true, true, true, true, true, true, true, true, true, true, true, true, true, true, true, true, true, true, true, true, true, true, true, true, true, true, true, true, true, true, true, true, true, true, true, true, true, true, true, true, true, true, true, true, false, false] rfl rfl (any_of HT_.out (by kernel_rfl)) (fun _ _ _ h => h) (Or.inr ⟨by rfl, rfl⟩) ?_ ?_
               rotate_left
               ·simp only [Act.put, nrm]
                rfl
               refine pure_ (i := 48) (N := some 83) (v := undef) (a' := ?_) #[true, true, true, true, true, true, true, true, true, true, true, true, true, true, true, true, true, true, true, true, true, true, true, true, true, true, true, true, true, true, true, true, true, true, true, true, true, true, true, true, true, true, true, true, true, true, true, true, true, false] rfl rfl (any_of HT_.out (by kernel_rfl)) (fun _ _ _ h => h) (Or.inr ⟨by rfl, rfl⟩) ?_ ?_
               rotate_left
               ·simp only [Act.put, nrm]
                rfl
               refine pstep 49 (some 84) #[true, true, true, true, true, true, true, true, true, true, true, true, true, true, true, true, true, true, true, true, true, true, true, true, true, true, true, true, true, true, true, true, true, true, true, true, true, true, true, true, true, true, true, true, true, true, true, true, true, true] HT_.out ?_
               refine done_ (done_of HT_.out (by kernel_rfl)) ?_
               try go_wp2
               go_meet
               case rel => exact ⟨_, (true), (by first | rfl | (simp; done) | (simp [*]; done)), H', ⟨by have := HJ3.out; have := HJ13.out; have := HK3.out; first | omega | exact Nat.le_refl _⟩, ⟨by (with_reducible repeat (first | apply Kd.R_alloc | apply Kd.R_drewN | apply Kd.R_drew)); exact HO_5.out⟩, ⟨by (with_reducible repeat (first | refine blk_drewN ?_ _ | refine blk_drew ?_ | refine blk_alloc ?_ _)); exact BK214.out⟩, ⟨by repeat (first | (with_reducible first | exact HB.out | apply below_alloc | apply pw_below_drewN | apply below_drew1 | refine below_set ?_ GE214.out) | exact HB.out)⟩⟩
             ·rw [if_neg c23] at H
              have c23b0 : (((rd_T46 t215 x9_3).f1) == 0) = false := beq_eq_false_iff_ne.mpr c23
              have c23b1 : (((rd_T46 t215 x9_3).f1) != 0) = true := bne_iff_ne.mpr c23
              have H' := Aside0.mk H
              clear H
              try go_wp2
              have n0_ := Aside0.mk (Kd.R_drew HO_5.out)
              have n1_ := Aside0.mk (blk_drew BK214.out)
              have n2_ := Aside0.mk (below_drew1 HB.out)
              clear HO_5
              clear BK214
              clear HB
              have HO_5 := n0_
              have BK214 := n1_
              have HB := n2_
              clear n0_ n1_ n2_
              have p220 : 0 ≤ (x9_3 : Int) := of_decide_eq_true (by first | (with_reducible assumption) | assumption)
              have q220 : x9_3 < (t215.length : Int) := of_decide_eq_true (by first | (with_reducible assumption) | assumption)
              obtain ⟨ad220, e220, hx220_0, hx220_1, hx220_2, hx220_3, hx220_4⟩ := at_T46 (Kd.R_reads' HO_5.out).2.2 x9_3 p220 q220
              cases e220
              replace p220 := eq_true p220
              replace q220 := eq_true q220
              have p221 : 0 ≤ (x9_3 : Int) := of_decide_eq_true (by first | (with_reducible assumption) | assumption)
              have q221 : x9_3 < (l1.length : Int) := of_decide_eq_true (by first | (with_reducible assumption) | assumption)
              obtain ⟨ad221, e221, hx221_0, hx221_1, hx221_2, hx221_3, hx221_4⟩ := at_T46 HR1.out x9_3 p221 q221
              have hw221_4 := hx221_4
              have hw221_3 := hx221_3
              have hw221_2 := hx221_2
              have hw221_1 := hx221_1
              have hw221_0 := hx221_0
              cases e221
              replace hx221_0 := (HB.out.cell (World.block_lt_of_cell? w _ hx221_0)).trans hx221_0
              replace hx221_1 := (HB.out.cell (World.block_lt_of_cell? w _ hx221_1)).trans hx221_1
              replace hx221_2 := (HB.out.cell (World.block_lt_of_cell? w _ hx221_2)).trans hx221_2
              replace hx221_3 := (HB.out.cell (World.block_lt_of_cell? w _ hx221_3)).trans hx221_3
              replace hx221_4 := (HB.out.cell (World.block_lt_of_cell? w _ hx221_4)).trans hx221_4
              replace p221 := eq_true p221
              replace q221 := eq_true q221
              have p222 : 0 ≤ (x9_3 : Int) := of_decide_eq_true (by first | (with_reducible assumption) | assumption)
              have q222 : x9_3 < (t215.length : Int) := of_decide_eq_true (by first | (with_reducible assumption) | assumption)
              obtain ⟨ad222, e222, hx222_0, hx222_1, hx222_2, hx222_3, hx222_4⟩ := at_T46 (Kd.R_reads' HO_5.out).2.2 x9_3 p222 q222
              obtain rfl : ad220 = ad222 := (by injection e222)
              replace p222 := eq_true p222
              replace q222 := eq_true q222
              have p223 : 0 ≤ (x9_3 : Int) := of_decide_eq_true (by first | (with_reducible assumption) | assumption)
              have q223 : x9_3 < (l1.length : Int) := of_decide_eq_true (by first | (with_reducible assumption) | assumption)
              obtain ⟨ad223, e223, hx223_0, hx223_1, hx223_2, hx223_3, hx223_4⟩ := at_T46 HR1.out x9_3 p223 q223
              have hw223_4 := hx223_4
              have hw223_3 := hx223_3
              have hw223_2 := hx223_2
              have hw223_1 := hx223_1
              have hw223_0 := hx223_0
              obtain rfl : ad221 = ad223 := (by injection e223)
              replace hx223_0 := (HB.out.cell (World.block_lt_of_cell? w _ hx223_0)).trans hx223_0
              replace hx223_1 := (HB.out.cell (World.block_lt_of_cell? w _ hx223_1)).trans hx223_1
              replace hx223_2 := (HB.out.cell (World.block_lt_of_cell? w _ hx223_2)).trans hx223_2
              replace hx223_3 := (HB.out.cell (World.block_lt_of_cell? w _ hx223_3)).trans hx223_3
              replace hx223_4 := (HB.out.cell (World.block_lt_of_cell? w _ hx223_4)).trans hx223_4
              replace p223 := eq_true p223
              replace q223 := eq_true q223
              have p224 : 0 ≤ (x9_3 : Int) := of_decide_eq_true (by first | (with_reducible assumption) | assumption)
              have q224 : x9_3 < (t215.length : Int) := of_decide_eq_true (by first | (with_reducible assumption) | assumption)
              obtain ⟨ad224, e224, hx224_0, hx224_1, hx224_2, hx224_3, hx224_4⟩ := at_T46 (Kd.R_reads' HO_5.out).2.2 x9_3 p224 q224
              obtain rfl : ad220 = ad224 := (by injection e224)
              replace p224 := eq_true p224
              replace q224 := eq_true q224
              refine start_ (n := 50) (S := fun w' => w'.cell? (ad220.add ((x9_3).toNat * 5)) = some (.int .i64 ((rd_T46 t215 x9_3).f0)) ∧ w'.cell? ⟨(ad220.add ((x9_3).toNat * 5)).block, (ad220.add ((x9_3).toNat * 5)).off + 1, none⟩ = some (.int .i64 ((rd_T46 t215 x9_3).f1)) ∧ w'.cell? ⟨(ad220.add ((x9_3).toNat * 5)).block, (ad220.add ((x9_3).toNat * 5)).off + 2, none⟩ = some (.int .i64 ((rd_T46 t215 x9_3).f2)) ∧ w'.cell? ⟨(ad220.add ((x9_3).toNat * 5)).block, (ad220.add ((x9_3).toNat * 5)).off + 3, none⟩ = some (.string ((rd_T46 t215 x9_3).f3)) ∧ w'.cell? ⟨(ad220.add ((x9_3).toNat * 5)).block, (ad220.add ((x9_3).toNat * 5)).off + 4, none⟩ = some (.int .i64 ((rd_T46 t215 x9_3).f4)) ∧ w'.cell? (ad221.add ((x9_3).toNat * 5)) = some (.int .i64 ((rd_T46 l1 x9_3).f0)) ∧ w'.cell? ⟨(ad221.add ((x9_3).toNat * 5)).block, (ad221.add ((x9_3).toNat * 5)).off + 1, none⟩ = some (.int .i64 ((rd_T46 l1 x9_3).f1)) ∧ w'.cell? ⟨(ad221.add ((x9_3).toNat * 5)).block, (ad221.add ((x9_3).toNat * 5)).off + 2, none⟩ = some (.int .i64 ((rd_T46 l1 x9_3).f2)) ∧ w'.cell? ⟨(ad221.add ((x9_3).toNat * 5)).block, (ad221.add ((x9_3).toNat * 5)).off + 3, none⟩ = some (.string ((rd_T46 l1 x9_3).f3)) ∧ w'.cell? ⟨(ad221.add ((x9_3).toNat * 5)).block, (ad221.add ((x9_3).toNat * 5)).off + 4, none⟩ = some (.int .i64 ((rd_T46 l1 x9_3).f4)) ∧ w'.cell? (ad220.add ((x9_3).toNat * 5)) = some (.int .i64 ((rd_T46 t215 x9_3).f0)) ∧ w'.cell? ⟨(ad220.add ((x9_3).toNat * 5)).block, (ad220.add ((x9_3).toNat * 5)).off + 1, none⟩ = some (.int .i64 ((rd_T46 t215 x9_3).f1)) ∧ w'.cell? ⟨(ad220.add ((x9_3).toNat * 5)).block, (ad220.add ((x9_3).toNat * 5)).off + 2, none⟩ = some (.int .i64 ((rd_T46 t215 x9_3).f2)) ∧ w'.cell? ⟨(ad220.add ((x9_3).toNat * 5)).block, (ad220.add ((x9_3).toNat * 5)).off + 3, none⟩ = some (.string ((rd_T46 t215 x9_3).f3)) ∧ w'.cell? ⟨(ad220.add ((x9_3).toNat * 5)).block, (ad220.add ((x9_3).toNat * 5)).off + 4, none⟩ = some (.int .i64 ((rd_T46 t215 x9_3).f4)) ∧ w'.cell? (ad221.add ((x9_3).toNat * 5)) = some (.int .i64 ((rd_T46 l1 x9_3).f0)) ∧ w'.cell? ⟨(ad221.add ((x9_3).toNat * 5)).block, (ad221.add ((x9_3).toNat * 5)).off + 1, none⟩ = some (.int .i64 ((rd_T46 l1 x9_3).f1)) ∧ w'.cell? ⟨(ad221.add ((x9_3).toNat * 5)).block, (ad221.add ((x9_3).toNat * 5)).off + 2, none⟩ = some (.int .i64 ((rd_T46 l1 x9_3).f2)) ∧ w'.cell? ⟨(ad221.add ((x9_3).toNat * 5)).block, (ad221.add ((x9_3).toNat * 5)).off + 3, none⟩ = some (.string ((rd_T46 l1 x9_3).f3)) ∧ w'.cell? ⟨(ad221.add ((x9_3).toNat * 5)).block, (ad221.add ((x9_3).toNat * 5)).off + 4, none⟩ = some (.int .i64 ((rd_T46 l1 x9_3).f4)) ∧ w'.cell? (ad220.add ((x9_3).toNat * 5)) = some (.int .i64 ((rd_T46 t215 x9_3).f0)) ∧ w'.cell? ⟨(ad220.add ((x9_3).toNat * 5)).block, (ad220.add ((x9_3).toNat * 5)).off + 1, none⟩ = some (.int .i64 ((rd_T46 t215 x9_3).f1)) ∧ w'.cell? ⟨(ad220.add ((x9_3).toNat * 5)).block, (ad220.add ((x9_3).toNat * 5)).off + 2, none⟩ = some (.int .i64 ((rd_T46 t215 x9_3).f2)) ∧ w'.cell? ⟨(ad220.add ((x9_3).toNat * 5)).block, (ad220.add ((x9_3).toNat * 5)).off + 3, none⟩ = some (.string ((rd_T46 t215 x9_3).f3)) ∧ w'.cell? ⟨(ad220.add ((x9_3).toNat * 5)).block, (ad220.add ((x9_3).toNat * 5)).off + 4, none⟩ = some (.int .i64 ((rd_T46 t215 x9_3).f4))) (ds := []) #[false, false, false, false, false, false, false, false, false, false, false, false, false, false, false, false, false, false, false, false, false, false, false, false, false, false, false, false, false, false, false, false, false, false, false, false, false, false, false, false, false, false, false, false, false, false, false, false, false, false] (by kernel_rfl) rfl rfl ⟨hx220_0, hx220_1, hx220_2, hx220_3, hx220_4, ((HB.out.cell (World.block_lt_of_cell? w _ hw221_0)).trans hw221_0), ((HB.out.cell (World.block_lt_of_cell? w _ hw221_1)).trans hw221_1), ((HB.out.cell (World.block_lt_of_cell? w _ hw221_2)).trans hw221_2), ((HB.out.cell (World.block_lt_of_cell? w _ hw221_3)).trans hw221_3), ((HB.out.cell (World.block_lt_of_cell? w _ hw221_4)).trans hw221_4), hx222_0, hx222_1, hx222_2, hx222_3, hx222_4, ((HB.out.cell (World.block_lt_of_cell? w _ hw223_0)).trans hw223_0), ((HB.out.cell (World.block_lt_of_cell? w _ hw223_1)).trans hw223_1), ((HB.out.cell (World.block_lt_of_cell? w _ hw223_2)).trans hw223_2), ((HB.out.cell (World.block_lt_of_cell? w _ hw223_3)).trans hw223_3), ((HB.out.cell (World.block_lt_of_cell? w _ hw223_4)).trans hw223_4), hx224_0, hx224_1, hx224_2, hx224_3, hx224_4⟩ (fun hHeld => ?_); refine with_tabW signalbenchlaw20_ScrambleRoundTrips.tab11 signalbenchlaw20_ScrambleRoundTrips.bits11 (fun HT_ HW_ => ?_)
              generalize wr.drew = w27 at HO_5 BK214 HB hx220_0 hx220_1 hx220_2 hx220_3 hx220_4 hx221_0 hx221_1 hx221_2 hx221_3 hx221_4 hx222_0 hx222_1 hx222_2 hx222_3 hx222_4 hx223_0 hx223_1 hx223_2 hx223_3 hx223_4 hx224_0 hx224_1 hx224_2 hx224_3 hx224_4 hHeld ⊢
              refine pstep 0 (some 35) #[true, false, false, false, false, false, false, false, false, false, false, false, false, false, false, false, false, false, false, false, false, false, false, false, false, false, false, false, false, false, false, false, false, false, false, false, false, false, false, false, false, false, false, false, false, false, false, false, false, false] HT_.out ?_
              refine pstep 1 (some 36) #[true, true, false, false, false, false, false, false, false, false, false, false, false, false, false, false, false, false, false, false, false, false, false, false, false, false, false, false, false, false, false, false, false, false, false, false, false, false, false, false, false, false, false, false, false, false, false, false, false, false] HT_.out ?_
              refine pstep 2 (some 37) #[true, true, true, false, false, false, false, false, false, false, false, false, false, false, false, false, false, false, false, false, false, false, false, false, false, false, false, false, false, false, false, false, false, false, false, false, false, false, false, false, false, false, false, false, false, false, false, false, false, false] HT_.out ?_
              refine pstep 3 (some 38) #[true, true, true, true, false, false, false, false, false, false, false, false, false, false, false, false, false, false, false, false, false, false, false, false, false, false, false, false, false, false, false, false, false, false, false, false, false, false, false, false, false, false, false, false, false, false, false, false, false, false] HT_.out ?_
              refine pstep 5 (some 40) #[true, true, true, true, false, true, false, false, false, false, false, false, false, false, false, false, false, false, false, false, false, false, false, false, false, false, false, false, false, false, false, false, false, false, false, false, false, false, false, false, false, false, false, false, false, false, false, false, false, false] HT_.out ?_
              refine pstep 6 (some 41) #[true, true, true, true, false, true, true, false, false, false, false, false, false, false, false, false, false, false, false, false, false, false, false, false, false, false, false, false, false, false, false, false, false, false, false, false, false, false, false, false, false, false, false, false, false, false, false, false, false, false] HT_.out ?_
              refine pstep 7 (some 42) #[true, true, true, true, false, true, true, true, false, false, false, false, false, false, false, false, false, false, false, false, false, false, false, false, false, false, false, false, false, false, false, false, false, false, false, false, false, false, false, false, false, false, false, false, false, false, false, false, false, false] HT_.out ?_
              refine pstep 8 (some 43) #[true, true, true, true, false, true, true, true, true, false, false, false, false, false, false, false, false, false, false, false, false, false, false, false, false, false, false, false, false, false, false, false, false, false, false, false, false, false, false, false, false, false, false, false, false, false, false, false, false, false] HT_.out ?_
              refine take_ (i := 4) (N := some 39) (v := ?_) (a' := ?_) #[true, true, true, true, true, true, true, true, true, false, false, false, false, false, false, false, false, false, false, false, false, false, false, false, false, false, false, false, false, false, false, false, false, false, false, false, false, false, false, false, false, false, false, false, false, false, false, false, false, false] rfl rfl (take_ofW HT_.out HW_.out (by kernel_rfl)) (fun _ _ _ h => h) (Or.inl ⟨by rfl, ?_⟩) hHeld ?_ ?_
              rotate_left
              ·rintro w' ⟨s0, s1, s2, s3, s4, s5, s6, s7, s8, s9, s10, s11, s12, s13, s14, s15, s16, s17, s18, s19, s20, s21, s22, s23, s24⟩
               go_simp
               with_reducible rfl
              rotate_left
              ·simp only [Act.put, nrm]
               rfl
              refine take_ (i := 9) (N := some 44) (v := ?_) (a' := ?_) #[true, true, true, true, true, true, true, true, true, true, false, false, false, false, false, false, false, false, false, false, false, false, false, false, false, false, false, false, false, false, false, false, false, false, false, false, false, false, false, false, false, false, false, false, false, false, false, false, false, false] rfl rfl (take_ofW HT_.out HW_.out (by kernel_rfl)) (fun _ _ _ h => h) (Or.inl ⟨by rfl, ?_⟩) hHeld ?_ ?_
              rotate_left
              ·rintro w' ⟨s0, s1, s2, s3, s4, s5, s6, s7, s8, s9, s10, s11, s12, s13, s14, s15, s16, s17, s18, s19, s20, s21, s22, s23, s24⟩
               go_simp
               with_reducible rfl
              rotate_left
              ·simp only [Act.put, nrm]
               rfl
              refine pstep 10 (some 45) #[true, true, true, true, true, true, true, true, true, true, true, false, false, false, false, false, false, false, false, false, false, false, false, false, false, false, false, false, false, false, false, false, false, false, false, false, false, false, false, false, false, false, false, false, false, false, false, false, false, false] HT_.out ?_
              refine pstep 11 (some 46) #[true, true, true, true, true, true, true, true, true, true, true, true, false, false, false, false, false, false, false, false, false, false, false, false, false, false, false, false, false, false, false, false, false, false, false, false, false, false, false, false, false, false, false, false, false, false, false, false, false, false] HT_.out ?_
              refine pstep 12 (some 47) #[true, true, true, true, true, true, true, true, true, true, true, true, true, false, false, false, false, false, false, false, false, false, false, false, false, false, false, false, false, false, false, false, false, false, false, false, false, false, false, false, false, false, false, false, false, false, false, false, false, false] HT_.out ?_
              refine pstep 13 (some 48) #[true, true, true, true, true, true, true, true, true, true, true, true, true, true, false, false, false, false, false, false, false, false, false, false, false, false, false, false, false, false, false, false, false, false, false, false, false, false, false, false, false, false, false, false, false, false, false, false, false, false] HT_.out ?_
              refine pstep 14 (some 49) #[true, true, true, true, true, true, true, true, true, true, true, true, true, true, true, false, false, false, false, false, false, false, false, false, false, false, false, false, false, false, false, false, false, false, false, false, false, false, false, false, false, false, false, false, false, false, false, false, false, false] HT_.out ?_
              refine pstep 15 (some 50) #[true, true, true, true, true, true, true, true, true, true, true, true, true, true, true, true, false, false, false, false, false, false, false, false, false, false, false, false, false, false, false, false, false, false, false, false, false, false, false, false, false, false, false, false, false, false, false, false, false, false] HT_.out ?_
              refine pstep 18 (some 53) #[true, true, true, true, true, true, true, true, true, true, true, true, true, true, true, true, false, false, true, false, false, false, false, false, false, false, false, false, false, false, false, false, false, false, false, false, false, false, false, false, false, false, false, false, false, false, false, false, false, false] HT_.out ?_
              refine pstep 19 (some 54) #[true, true, true, true, true, true, true, true, true, true, true, true, true, true, true, true, false, false, true, true, false, false, false, false, false, false, false, false, false, false, false, false, false, false, false, false, false, false, false, false, false, false, false, false, false, false, false, false, false, false] HT_.out ?_
              refine pstep 20 (some 55) #[true, true, true, true, true, true, true, true, true, true, true, true, true, true, true, true, false, false, true, true, true, false, false, false, false, false, false, false, false, false, false, false, false, false, false, false, false, false, false, false, false, false, false, false, false, false, false, false, false, false] HT_.out ?_
              refine pstep 21 (some 56) #[true, true, true, true, true, true, true, true, true, true, true, true, true, true, true, true, false, false, true, true, true, true, false, false, false, false, false, false, false, false, false, false, false, false, false, false, false, false, false, false, false, false, false, false, false, false, false, false, false, false] HT_.out ?_
              refine take_ (i := 16) (N := some 51) (v := ?_) (a' := ?_) #[true, true, true, true, true, true, true, true, true, true, true, true, true, true, true, true, true, false, true, true, true, true, false, false, false, false, false, false, false, false, false, false, false, false, false, false, false, false, false, false, false, false, false, false, false, false, false, false, false, false] rfl rfl (take_ofW HT_.out HW_.out (by kernel_rfl)) (fun _ _ _ h => h) (Or.inl ⟨by rfl, ?_⟩) hHeld ?_ ?_
              rotate_left
              ·rintro w' ⟨s0, s1, s2, s3, s4, s5, s6, s7, s8, s9, s10, s11, s12, s13, s14, s15, s16, s17, s18, s19, s20, s21, s22, s23, s24⟩
               go_simp
               with_reducible rfl
              rotate_left
              ·simp only [Act.put, nrm]
               rfl
              refine pstep 17 (some 52) #[true, true, true, true, true, true, true, true, true, true, true, true, true, true, true, true, true, true, true, true, true, true, false, false, false, false, false, false, false, false, false, false, false, false, false, false, false, false, false, false, false, false, false, false, false, false, false, false, false, false] HT_.out ?_
              refine take_ (i := 22) (N := some 57) (v := ?_) (a' := ?_) #[true, true, true, true, true, true, true, true, true, true, true, true, true, true, true, true, true, true, true, true, true, true, true, false, false, false, false, false, false, false, false, false, false, false, false, false, false, false, false, false, false, false, false, false, false, false, false, false, false, false] rfl rfl (take_ofW HT_.out HW_.out (by kernel_rfl)) (fun _ _ _ h => h) (Or.inl ⟨by rfl, ?_⟩) hHeld ?_ ?_
              rotate_left
              ·rintro w' ⟨s0, s1, s2, s3, s4, s5, s6, s7, s8, s9, s10, s11, s12, s13, s14, s15, s16, s17, s18, s19, s20, s21, s22, s23, s24⟩
               go_simp
               with_reducible rfl
              rotate_left
              ·simp only [Act.put, nrm]
               rfl
              refine pstep 23 (some 58) #[true, true, true, true, true, true, true, true, true, true, true, true, true, true, true, true, true, true, true, true, true, true, true, true, false, false, false, false, false, false, false, false, false, false, false, false, false, false, false, false, false, false, false, false, false, false, false, false, false, false] HT_.out ?_
              refine pstep 24 (some 59) #[true, true, true, true, true, true, true, true, true, true, true, true, true, true, true, true, true, true, true, true, true, true, true, true, true, false, false, false, false, false, false, false, false, false, false, false, false, false, false, false, false, false, false, false, false, false, false, false, false, false] HT_.out ?_
              refine pstep 25 (some 60) #[true, true, true, true, true, true, true, true, true, true, true, true, true, true, true, true, true, true, true, true, true, true, true, true, true, true, false, false, false, false, false, false, false, false, false, false, false, false, false, false, false, false, false, false, false, false, false, false, false, false] HT_.out ?_
              refine pstep 26 (some 61) #[true, true, true, true, true, true, true, true, true, true, true, true, true, true, true, true, true, true, true, true, true, true, true, true, true, true, true, false, false, false, false, false, false, false, false, false, false, false, false, false, false, false, false, false, false, false, false, false, false, false] HT_.out ?_
              refine pstep 27 (some 62) #[true, true, true, true, true, true, true, true, true, true, true, true, true, true, true, true, true, true, true, true, true, true, true, true, true, true, true, true, false, false, false, false, false, false, false, false, false, false, false, false, false, false, false, false, false, false, false, false, false, false] HT_.out ?_
              refine pstep 28 (some 63) #[true, true, true, true, true, true, true, true, true, true, true, true, true, true, true, true, true, true, true, true, true, true, true, true, true, true, true, true, true, false, false, false, false, false, false, false, false, false, false, false, false, false, false, false, false, false, false, false, false, false] HT_.out ?_
              refine pstep 29 (some 64) #[true, true, true, true, true, true, true, true, true, true, true, true, true, true, true, true, true, true, true, true, true, true, true, true, true, true, true, true, true, true, false, false, false, false, false, false, false, false, false, false, false, false, false, false, false, false, false, false, false, false] HT_.out ?_
              refine pstep 30 (some 65) #[true, true, true, true, true, true, true, true, true, true, true, true, true, true, true, true, true, true, true, true, true, true, true, true, true, true, true, true, true, true, true, false, false, false, false, false, false, false, false, false, false, false, false, false, false, false, false, false, false, false] HT_.out ?_
              refine take_ (i := 31) (N := some 66) (v := ?_) (a' := ?_) #[true, true, true, true, true, true, true, true, true, true, true, true, true, true, true, true, true, true, true, true, true, true, true, true, true, true, true, true, true, true, true, true, false, false, false, false, false, false, false, false, false, false, false, false, false, false, false, false, false, false] rfl rfl (take_ofW HT_.out HW_.out (by kernel_rfl)) (fun _ _ _ h => h) (Or.inl ⟨by rfl, ?_⟩) hHeld ?_ ?_
              rotate_left
              ·rintro w' ⟨s0, s1, s2, s3, s4, s5, s6, s7, s8, s9, s10, s11, s12, s13, s14, s15, s16, s17, s18, s19, s20, s21, s22, s23, s24⟩
               go_simp
               with_reducible rfl
              rotate_left
              ·simp only [Act.put, nrm]
               rfl
              refine pstep 32 (some 67) #[true, true, true, true, true, true, true, true, true, true, true, true, true, true, true, true, true, true, true, true, true, true, true, true, true, true, true, true, true, true, true, true, true, false, false, false, false, false, false, false, false, false, false, false, false, false, false, false, false, false] HT_.out ?_
              refine pstep 33 (some 68) #[true, true, true, true, true, true, true, true, true, true, true, true, true, true, true, true, true, true, true, true, true, true, true, true, true, true, true, true, true, true, true, true, true, true, false, false, false, false, false, false, false, false, false, false, false, false, false, false, false, false] HT_.out ?_
              refine pstep 34 (some 69) #[true, true, true, true, true, true, true, true, true, true, true, true, true, true, true, true, true, true, true, true, true, true, true, true, true, true, true, true, true, true, true, true, true, true, true, false, false, false, false, false, false, false, false, false, false, false, false, false, false, false] HT_.out ?_
              refine pure_ (i := 35) (N := some 70) (v := undef) (a' := ?_) #[true, true, true, true, true, true, true, true, true, true, true, true, true, true, true, true, true, true, true, true, true, true, true, true, true, true, true, true, true, true, true, true, true, true, true, true, false, false, false, false, false, false, false, false, false, false, false, false, false, false] rfl rfl (any_of HT_.out (by kernel_rfl)) (fun _ _ _ h => h) (Or.inr ⟨by rfl, rfl⟩) ?_ ?_
              rotate_left
              ·simp only [Act.put, nrm]
               rfl
              refine pure_ (i := 36) (N := some 71) (v := undef) (a' := ?_) #[true, true, true, true, true, true, true, true, true, true, true, true, true, true, true, true, true, true, true, true, true, true, true, true, true, true, true, true, true, true, true, true, true, true, true, true, true, false, false, false, false, false, false, false, false, false, false, false, false, false] rfl rfl (any_of HT_.out (by kernel_rfl)) (fun _ _ _ h => h) (Or.inr ⟨by rfl, rfl⟩) ?_ ?_
              rotate_left
              ·simp only [Act.put, nrm]
               rfl
              refine pure_ (i := 37) (N := some 72) (v := undef) (a' := ?_) #[true, true, true, true, true, true, true, true, true, true, true, true, true, true, true, true, true, true, true, true, true, true, true, true, true, true, true, true, true, true, true, true, true, true, true, true, true, true, false, false, false, false, false, false, false, false, false, false, false, false] rfl rfl (any_of HT_.out (by kernel_rfl)) (fun _ _ _ h => h) (Or.inr ⟨by rfl, rfl⟩) ?_ ?_
              rotate_left
              ·simp only [Act.put, nrm]
               rfl
              refine pure_ (i := 38) (N := some 73) (v := undef) (a' := ?_) #[true, true, true, true, true, true, true, true, true, true, true, true, true, true, true, true, true, true, true, true, true, true, true, true, true, true, true, true, true, true, true, true, true, true, true, true, true, true, true, false, false, false, false, false, false, false, false, false, false, false] rfl rfl (any_of HT_.out (by kernel_rfl)) (fun _ _ _ h => h) (Or.inr ⟨by rfl, rfl⟩) ?_ ?_
              rotate_left
              ·simp only [Act.put, nrm]
               rfl
              refine pure_ (i := 39) (N := some 74) (v := undef) (a' := ?_) #[true, true, true, true, true, true, true, true, true, true, true, true, true, true, true, true, true, true, true, true, true, true, true, true, true, true, true, true, true, true, true, true, true, true, true, true, true, true, true, true, false, false, false, false, false, false, false, false, false, false] rfl rfl (any_of HT_.out (by kernel_rfl)) (fun _ _ _ h => h) (Or.inr ⟨by rfl, rfl⟩) ?_ ?_
              rotate_left
              ·simp only [Act.put, nrm]
               rfl
              refine pure_ (i := 40) (N := some 75) (v := undef) (a' := ?_) #[true, true, true, true, true, true, true, true, true, true, true, true, true, true, true, true, true, true, true, true, true, true, true, true, true, true, true, true, true, true, true, true, true, true, true, true, true, true, true, true, true, false, false, false, false, false, false, false, false, false] rfl rfl (any_of HT_.out (by kernel_rfl)) (fun _ _ _ h => h) (Or.inr ⟨by rfl, rfl⟩) ?_ ?_
              rotate_left
              ·simp only [Act.put, nrm]
               rfl
              refine pstep 41 (some 76) #[true, true, true, true, true, true, true, true, true, true, true, true, true, true, true, true, true, true, true, true, true, true, true, true, true, true, true, true, true, true, true, true, true, true, true, true, true, true, true, true, true, true, false, false, false, false, false, false, false, false] HT_.out ?_
              refine pstep 42 (some 77) #[true, true, true, true, true, true, true, true, true, true, true, true, true, true, true, true, true, true, true, true, true, true, true, true, true, true, true, true, true, true, true, true, true, true, true, true, true, true, true, true, true, true, true, false, false, false, false, false, false, false] HT_.out ?_
              refine pure_ (i := 43) (N := some 78) (v := undef) (a' := ?_) #[true, true, true, true, true, true, true, true, true, true, true, true, true, true, true, true, true, true, true, true, true, true, true, true, true, true, true, true, true, true, true, true, true, true, true, true, true, true, true, true, true, true, true, true, false, false, false, false, false, false] rfl rfl (any_of HT_.out (by kernel_rfl)) (fun _ _ _ h => h) (Or.inr ⟨by rfl, rfl⟩) ?_ ?_
              rotate_left
              ·simp only [Act.put, nrm]
               rfl
              refine pure_ (i := 44) (N := some 79) (v := undef) (a' := ?_) #[true, true, true, true, true, true, true, true, true, true, true, true, true, true, true, true, true, true, true, true, true, true, true, true, true, true, true, true, true, true, true, true, true, true, true, true, true, true, true, true, true, true, true, true, true, false, false, false, false, false] rfl rfl (any_of HT_.out (by kernel_rfl)) (fun _ _ _ h => h) (Or.inr ⟨by rfl, rfl⟩) ?_ ?_
              rotate_left
              ·simp only [Act.put, nrm]
               rfl
              refine pure_ (i := 45) (N := some 80) (v := undef) (a' := ?_) #[true, true, true, true, true, true, true, true, true, true, true, true, true, true, true, true, true, true, true, true, true, true, true, true, true, true, true, true, true, true, true, true, true, true, true, true, true, true, true, true, true, true, true, true, true, true, false, false, false, false] rfl rfl (any_of HT_.out (by kernel_rfl)) (fun _ _ _ h => h) (Or.inr ⟨by rfl, rfl⟩) ?_ ?_
              rotate_left
              ·simp only [Act.put, nrm]
               rfl
              refine pure_ (i := 46) (N := some 81) (v := undef) (a' := ?_) #[true, true, true, true, true, true, true, true, true, true, true, true, true, true, true, true, true, true, true, true, true, true, true, true, true, true, true, true, true, true, true, true, true, true, true, true, true, true, true, true, true, true, true, true, true, true, true, false, false, false] rfl rfl (any_of HT_.out (by kernel_rfl)) (fun _ _ _ h => h) (Or.inr ⟨by rfl, rfl⟩) ?_ ?_
              rotate_left
              ·simp only [Act.put, nrm]
               rfl
              refine pure_ (i := 47) (N := some 82) (v := undef) (a' := ?_) #[true, true, true, true, true, true, true, true, true, true, true, true, true, true, true, true, true, true, true, true, true, true, true, true, true, true, true, true, true, true, true, true, true, true, true, true, true, true, true, true, true, true, true, true, true, true, true, true, false, false] rfl rfl (any_of HT_.out (by kernel_rfl)) (fun _ _ _ h => h) (Or.inr ⟨by rfl, rfl⟩) ?_ ?_
              rotate_left
              ·simp only [Act.put, nrm]
               rfl
              refine pure_ (i := 48) (N := some 83) (v := undef) (a' := ?_) #[true, true, true, true, true, true, true, true, true, true, true, true, true, true, true, true, true, true, true, true, true, true, true, true, true, true, true, true, true, true, true, true, true, true, true, true, true, true, true, true, true, true, true, true, true, true, true, true, true, false] rfl rfl (any_of HT_.out (by kernel_rfl)) (fun _ _ _ h => h) (Or.inr ⟨by rfl, rfl⟩) ?_ ?_
              rotate_left
              ·simp only [Act.put, nrm]
               rfl
              refine pstep 49 (some 84) #[true, true, true, true, true, true, true, true, true, true, true, true, true, true, true, true, true, true, true, true, true, true, true, true, true, true, true, true, true, true, true, true, true, true, true, true, true, true, true, true, true, true, true, true, true, true, true, true, true, true] HT_.out ?_
              refine done_ (done_of HT_.out (by kernel_rfl)) ?_
              try go_wp2
              go_meet
              case rel => exact ⟨_, (true), (by first | rfl | (simp; done) | (simp [*]; done)), H', ⟨by have := HJ3.out; have := HJ13.out; have := HK3.out; first | omega | exact Nat.le_refl _⟩, ⟨by (with_reducible repeat (first | apply Kd.R_alloc | apply Kd.R_drewN | apply Kd.R_drew)); exact HO_5.out⟩, ⟨by (with_reducible repeat (first | refine blk_drewN ?_ _ | refine blk_drew ?_ | refine blk_alloc ?_ _)); exact BK214.out⟩, ⟨by repeat (first | (with_reducible first | exact HB.out | apply below_alloc | apply pw_below_drewN | apply below_drew1 | refine below_set ?_ GE214.out) | exact HB.out)⟩⟩
            ·rw [if_neg c22] at H
             have c22b0 : ((((rd_T46 t215 x9_3).f3).size : Int) == (((rd_T46 l1 x9_3).f3).size : Int)) = false := beq_eq_false_iff_ne.mpr c22
             have c22b1 : ((((rd_T46 t215 x9_3).f3).size : Int) != (((rd_T46 l1 x9_3).f3).size : Int)) = true := bne_iff_ne.mpr c22
             have c22b2 : (((rd_T46 t215 x9_3).f3).size == ((rd_T46 l1 x9_3).f3).size) = false := by first | simpa using c22 | (simp at c22 ⊢; omega)
             have H' := Aside0.mk H
             clear H
             try go_wp2
             have n0_ := Aside0.mk (Kd.R_drew HO_5.out)
             have n1_ := Aside0.mk (blk_drew BK214.out)
             have n2_ := Aside0.mk (below_drew1 HB.out)
             clear HO_5
             clear BK214
             clear HB
             have HO_5 := n0_
             have BK214 := n1_
             have HB := n2_
             clear n0_ n1_ n2_
             have p220 : 0 ≤ (x9_3 : Int) := of_decide_eq_true (by first | (with_reducible assumption) | assumption)
             have q220 : x9_3 < (t215.length : Int) := of_decide_eq_true (by first | (with_reducible assumption) | assumption)
             obtain ⟨ad220, e220, hx220_0, hx220_1, hx220_2, hx220_3, hx220_4⟩ := at_T46 (Kd.R_reads' HO_5.out).2.2 x9_3 p220 q220
             cases e220
             replace p220 := eq_true p220
             replace q220 := eq_true q220
             have p221 : 0 ≤ (x9_3 : Int) := of_decide_eq_true (by first | (with_reducible assumption) | assumption)
             have q221 : x9_3 < (l1.length : Int) := of_decide_eq_true (by first | (with_reducible assumption) | assumption)
             obtain ⟨ad221, e221, hx221_0, hx221_1, hx221_2, hx221_3, hx221_4⟩ := at_T46 HR1.out x9_3 p221 q221
             have hw221_4 := hx221_4
             have hw221_3 := hx221_3
             have hw221_2 := hx221_2
             have hw221_1 := hx221_1
             have hw221_0 := hx221_0
             cases e221
             replace hx221_0 := (HB.out.cell (World.block_lt_of_cell? w _ hx221_0)).trans hx221_0
             replace hx221_1 := (HB.out.cell (World.block_lt_of_cell? w _ hx221_1)).trans hx221_1
             replace hx221_2 := (HB.out.cell (World.block_lt_of_cell? w _ hx221_2)).trans hx221_2
             replace hx221_3 := (HB.out.cell (World.block_lt_of_cell? w _ hx221_3)).trans hx221_3
             replace hx221_4 := (HB.out.cell (World.block_lt_of_cell? w _ hx221_4)).trans hx221_4
             replace p221 := eq_true p221
             replace q221 := eq_true q221
             have p222 : 0 ≤ (x9_3 : Int) := of_decide_eq_true (by first | (with_reducible assumption) | assumption)
             have q222 : x9_3 < (t215.length : Int) := of_decide_eq_true (by first | (with_reducible assumption) | assumption)
             obtain ⟨ad222, e222, hx222_0, hx222_1, hx222_2, hx222_3, hx222_4⟩ := at_T46 (Kd.R_reads' HO_5.out).2.2 x9_3 p222 q222
             obtain rfl : ad220 = ad222 := (by injection e222)
             replace p222 := eq_true p222
             replace q222 := eq_true q222
             have p223 : 0 ≤ (x9_3 : Int) := of_decide_eq_true (by first | (with_reducible assumption) | assumption)
             have q223 : x9_3 < (l1.length : Int) := of_decide_eq_true (by first | (with_reducible assumption) | assumption)
             obtain ⟨ad223, e223, hx223_0, hx223_1, hx223_2, hx223_3, hx223_4⟩ := at_T46 HR1.out x9_3 p223 q223
             have hw223_4 := hx223_4
             have hw223_3 := hx223_3
             have hw223_2 := hx223_2
             have hw223_1 := hx223_1
             have hw223_0 := hx223_0
             obtain rfl : ad221 = ad223 := (by injection e223)
             replace hx223_0 := (HB.out.cell (World.block_lt_of_cell? w _ hx223_0)).trans hx223_0
             replace hx223_1 := (HB.out.cell (World.block_lt_of_cell? w _ hx223_1)).trans hx223_1
             replace hx223_2 := (HB.out.cell (World.block_lt_of_cell? w _ hx223_2)).trans hx223_2
             replace hx223_3 := (HB.out.cell (World.block_lt_of_cell? w _ hx223_3)).trans hx223_3
             replace hx223_4 := (HB.out.cell (World.block_lt_of_cell? w _ hx223_4)).trans hx223_4
             replace p223 := eq_true p223
             replace q223 := eq_true q223
             refine start_ (n := 50) (S := fun w' => w'.cell? (ad220.add ((x9_3).toNat * 5)) = some (.int .i64 ((rd_T46 t215 x9_3).f0)) ∧ w'.cell? ⟨(ad220.add ((x9_3).toNat * 5)).block, (ad220.add ((x9_3).toNat * 5)).off + 1, none⟩ = some (.int .i64 ((rd_T46 t215 x9_3).f1)) ∧ w'.cell? ⟨(ad220.add ((x9_3).toNat * 5)).block, (ad220.add ((x9_3).toNat * 5)).off + 2, none⟩ = some (.int .i64 ((rd_T46 t215 x9_3).f2)) ∧ w'.cell? ⟨(ad220.add ((x9_3).toNat * 5)).block, (ad220.add ((x9_3).toNat * 5)).off + 3, none⟩ = some (.string ((rd_T46 t215 x9_3).f3)) ∧ w'.cell? ⟨(ad220.add ((x9_3).toNat * 5)).block, (ad220.add ((x9_3).toNat * 5)).off + 4, none⟩ = some (.int .i64 ((rd_T46 t215 x9_3).f4)) ∧ w'.cell? (ad221.add ((x9_3).toNat * 5)) = some (.int .i64 ((rd_T46 l1 x9_3).f0)) ∧ w'.cell? ⟨(ad221.add ((x9_3).toNat * 5)).block, (ad221.add ((x9_3).toNat * 5)).off + 1, none⟩ = some (.int .i64 ((rd_T46 l1 x9_3).f1)) ∧ w'.cell? ⟨(ad221.add ((x9_3).toNat * 5)).block, (ad221.add ((x9_3).toNat * 5)).off + 2, none⟩ = some (.int .i64 ((rd_T46 l1 x9_3).f2)) ∧ w'.cell? ⟨(ad221.add ((x9_3).toNat * 5)).block, (ad221.add ((x9_3).toNat * 5)).off + 3, none⟩ = some (.string ((rd_T46 l1 x9_3).f3)) ∧ w'.cell? ⟨(ad221.add ((x9_3).toNat * 5)).block, (ad221.add ((x9_3).toNat * 5)).off + 4, none⟩ = some (.int .i64 ((rd_T46 l1 x9_3).f4)) ∧ w'.cell? (ad220.add ((x9_3).toNat * 5)) = some (.int .i64 ((rd_T46 t215 x9_3).f0)) ∧ w'.cell? ⟨(ad220.add ((x9_3).toNat * 5)).block, (ad220.add ((x9_3).toNat * 5)).off + 1, none⟩ = some (.int .i64 ((rd_T46 t215 x9_3).f1)) ∧ w'.cell? ⟨(ad220.add ((x9_3).toNat * 5)).block, (ad220.add ((x9_3).toNat * 5)).off + 2, none⟩ = some (.int .i64 ((rd_T46 t215 x9_3).f2)) ∧ w'.cell? ⟨(ad220.add ((x9_3).toNat * 5)).block, (ad220.add ((x9_3).toNat * 5)).off + 3, none⟩ = some (.string ((rd_T46 t215 x9_3).f3)) ∧ w'.cell? ⟨(ad220.add ((x9_3).toNat * 5)).block, (ad220.add ((x9_3).toNat * 5)).off + 4, none⟩ = some (.int .i64 ((rd_T46 t215 x9_3).f4)) ∧ w'.cell? (ad221.add ((x9_3).toNat * 5)) = some (.int .i64 ((rd_T46 l1 x9_3).f0)) ∧ w'.cell? ⟨(ad221.add ((x9_3).toNat * 5)).block, (ad221.add ((x9_3).toNat * 5)).off + 1, none⟩ = some (.int .i64 ((rd_T46 l1 x9_3).f1)) ∧ w'.cell? ⟨(ad221.add ((x9_3).toNat * 5)).block, (ad221.add ((x9_3).toNat * 5)).off + 2, none⟩ = some (.int .i64 ((rd_T46 l1 x9_3).f2)) ∧ w'.cell? ⟨(ad221.add ((x9_3).toNat * 5)).block, (ad221.add ((x9_3).toNat * 5)).off + 3, none⟩ = some (.string ((rd_T46 l1 x9_3).f3)) ∧ w'.cell? ⟨(ad221.add ((x9_3).toNat * 5)).block, (ad221.add ((x9_3).toNat * 5)).off + 4, none⟩ = some (.int .i64 ((rd_T46 l1 x9_3).f4))) (ds := []) #[false, false, false, false, false, false, false, false, false, false, false, false, false, false, false, false, false, false, false, false, false, false, false, false, false, false, false, false, false, false, false, false, false, false, false, false, false, false, false, false, false, false, false, false, false, false, false, false, false, false] (by kernel_rfl) rfl rfl ⟨hx220_0, hx220_1, hx220_2, hx220_3, hx220_4, ((HB.out.cell (World.block_lt_of_cell? w _ hw221_0)).trans hw221_0), ((HB.out.cell (World.block_lt_of_cell? w _ hw221_1)).trans hw221_1), ((HB.out.cell (World.block_lt_of_cell? w _ hw221_2)).trans hw221_2), ((HB.out.cell (World.block_lt_of_cell? w _ hw221_3)).trans hw221_3), ((HB.out.cell (World.block_lt_of_cell? w _ hw221_4)).trans hw221_4), hx222_0, hx222_1, hx222_2, hx222_3, hx222_4, ((HB.out.cell (World.block_lt_of_cell? w _ hw223_0)).trans hw223_0), ((HB.out.cell (World.block_lt_of_cell? w _ hw223_1)).trans hw223_1), ((HB.out.cell (World.block_lt_of_cell? w _ hw223_2)).trans hw223_2), ((HB.out.cell (World.block_lt_of_cell? w _ hw223_3)).trans hw223_3), ((HB.out.cell (World.block_lt_of_cell? w _ hw223_4)).trans hw223_4)⟩ (fun hHeld => ?_); refine with_tabW signalbenchlaw20_ScrambleRoundTrips.tab11 signalbenchlaw20_ScrambleRoundTrips.bits11 (fun HT_ HW_ => ?_)
             generalize wr.drew = w28 at HO_5 BK214 HB hx220_0 hx220_1 hx220_2 hx220_3 hx220_4 hx221_0 hx221_1 hx221_2 hx221_3 hx221_4 hx222_0 hx222_1 hx222_2 hx222_3 hx222_4 hx223_0 hx223_1 hx223_2 hx223_3 hx223_4 hHeld ⊢
             refine pstep 0 (some 35) #[true, false, false, false, false, false, false, false, false, false, false, false, false, false, false, false, false, false, false, false, false, false, false, false, false, false, false, false, false, false, false, false, false, false, false, false, false, false, false, false, false, false, false, false, false, false, false, false, false, false] HT_.out ?_
             refine pstep 1 (some 36) #[true, true, false, false, false, false, false, false, false, false, false, false, false, false, false, false, false, false, false, false, false, false, false, false, false, false, false, false, false, false, false, false, false, false, false, false, false, false, false, false, false, false, false, false, false, false, false, false, false, false] HT_.out ?_
             refine pstep 2 (some 37) #[true, true, true, false, false, false, false, false, false, false, false, false, false, false, false, false, false, false, false, false, false, false, false, false, false, false, false, false, false, false, false, false, false, false, false, false, false, false, false, false, false, false, false, false, false, false, false, false, false, false] HT_.out ?_
             refine pstep 3 (some 38) #[true, true, true, true, false, false, false, false, false, false, false, false, false, false, false, false, false, false, false, false, false, false, false, false, false, false, false, false, false, false, false, false, false, false, false, false, false, false, false, false, false, false, false, false, false, false, false, false, false, false] HT_.out ?_
             refine pstep 5 (some 40) #[true, true, true, true, false, true, false, false, false, false, false, false, false, false, false, false, false, false, false, false, false, false, false, false, false, false, false, false, false, false, false, false, false, false, false, false, false, false, false, false, false, false, false, false, false, false, false, false, false, false] HT_.out ?_
             refine pstep 6 (some 41) #[true, true, true, true, false, true, true, false, false, false, false, false, false, false, false, false, false, false, false, false, false, false, false, false, false, false, false, false, false, false, false, false, false, false, false, false, false, false, false, false, false, false, false, false, false, false, false, false, false, false] HT_.out ?_
             refine pstep 7 (some 42) #[true, true, true, true, false, true, true, true, false, false, false, false, false, false, false, false, false, false, false, false, false, false, false, false, false, false, false, false, false, false, false, false, false, false, false, false, false, false, false, false, false, false, false, false, false, false, false, false, false, false] HT_.out ?_
             refine pstep 8 (some 43) #[true, true, true, true, false, true, true, true, true, false, false, false, false, false, false, false, false, false, false, false, false, false, false, false, false, false, false, false, false, false, false, false, false, false, false, false, false, false, false, false, false, false, false, false, false, false, false, false, false, false] HT_.out ?_
             refine take_ (i := 4) (N := some 39) (v := ?_) (a' := ?_) #[true, true, true, true, true, true, true, true, true, false, false, false, false, false, false, false, false, false, false, false, false, false, false, false, false, false, false, false, false, false, false, false, false, false, false, false, false, false, false, false, false, false, false, false, false, false, false, false, false, false] rfl rfl (take_ofW HT_.out HW_.out (by kernel_rfl)) (fun _ _ _ h => h) (Or.inl ⟨by rfl, ?_⟩) hHeld ?_ ?_
             rotate_left
             ·rintro w' ⟨s0, s1, s2, s3, s4, s5, s6, s7, s8, s9, s10, s11, s12, s13, s14, s15, s16, s17, s18, s19⟩
              go_simp
              with_reducible rfl
             rotate_left
             ·simp only [Act.put, nrm]
              rfl
             refine take_ (i := 9) (N := some 44) (v := ?_) (a' := ?_) #[true, true, true, true, true, true, true, true, true, true, false, false, false, false, false, false, false, false, false, false, false, false, false, false, false, false, false, false, false, false, false, false, false, false, false, false, false, false, false, false, false, false, false, false, false, false, false, false, false, false] rfl rfl (take_ofW HT_.out HW_.out (by kernel_rfl)) (fun _ _ _ h => h) (Or.inl ⟨by rfl, ?_⟩) hHeld ?_ ?_
             rotate_left
             ·rintro w' ⟨s0, s1, s2, s3, s4, s5, s6, s7, s8, s9, s10, s11, s12, s13, s14, s15, s16, s17, s18, s19⟩
              go_simp
              with_reducible rfl
             rotate_left
             ·simp only [Act.put, nrm]
              rfl
             refine pstep 10 (some 45) #[true, true, true, true, true, true, true, true, true, true, true, false, false, false, false, false, false, false, false, false, false, false, false, false, false, false, false, false, false, false, false, false, false, false, false, false, false, false, false, false, false, false, false, false, false, false, false, false, false, false] HT_.out ?_
             refine pstep 11 (some 46) #[true, true, true, true, true, true, true, true, true, true, true, true, false, false, false, false, false, false, false, false, false, false, false, false, false, false, false, false, false, false, false, false, false, false, false, false, false, false, false, false, false, false, false, false, false, false, false, false, false, false] HT_.out ?_
             refine pstep 12 (some 47) #[true, true, true, true, true, true, true, true, true, true, true, true, true, false, false, false, false, false, false, false, false, false, false, false, false, false, false, false, false, false, false, false, false, false, false, false, false, false, false, false, false, false, false, false, false, false, false, false, false, false] HT_.out ?_
             refine pstep 13 (some 48) #[true, true, true, true, true, true, true, true, true, true, true, true, true, true, false, false, false, false, false, false, false, false, false, false, false, false, false, false, false, false, false, false, false, false, false, false, false, false, false, false, false, false, false, false, false, false, false, false, false, false] HT_.out ?_
             refine pstep 14 (some 49) #[true, true, true, true, true, true, true, true, true, true, true, true, true, true, true, false, false, false, false, false, false, false, false, false, false, false, false, false, false, false, false, false, false, false, false, false, false, false, false, false, false, false, false, false, false, false, false, false, false, false] HT_.out ?_
             refine pstep 15 (some 50) #[true, true, true, true, true, true, true, true, true, true, true, true, true, true, true, true, false, false, false, false, false, false, false, false, false, false, false, false, false, false, false, false, false, false, false, false, false, false, false, false, false, false, false, false, false, false, false, false, false, false] HT_.out ?_
             refine pstep 18 (some 53) #[true, true, true, true, true, true, true, true, true, true, true, true, true, true, true, true, false, false, true, false, false, false, false, false, false, false, false, false, false, false, false, false, false, false, false, false, false, false, false, false, false, false, false, false, false, false, false, false, false, false] HT_.out ?_
             refine pstep 19 (some 54) #[true, true, true, true, true, true, true, true, true, true, true, true, true, true, true, true, false, false, true, true, false, false, false, false, false, false, false, false, false, false, false, false, false, false, false, false, false, false, false, false, false, false, false, false, false, false, false, false, false, false] HT_.out ?_
             refine pstep 20 (some 55) #[true, true, true, true, true, true, true, true, true, true, true, true, true, true, true, true, false, false, true, true, true, false, false, false, false, false, false, false, false, false, false, false, false, false, false, false, false, false, false, false, false, false, false, false, false, false, false, false, false, false] HT_.out ?_
             refine pstep 21 (some 56) #[true, true, true, true, true, true, true, true, true, true, true, true, true, true, true, true, false, false, true, true, true, true, false, false, false, false, false, false, false, false, false, false, false, false, false, false, false, false, false, false, false, false, false, false, false, false, false, false, false, false] HT_.out ?_
             refine take_ (i := 16) (N := some 51) (v := ?_) (a' := ?_) #[true, true, true, true, true, true, true, true, true, true, true, true, true, true, true, true, true, false, true, true, true, true, false, false, false, false, false, false, false, false, false, false, false, false, false, false, false, false, false, false, false, false, false, false, false, false, false, false, false, false] rfl rfl (take_ofW HT_.out HW_.out (by kernel_rfl)) (fun _ _ _ h => h) (Or.inl ⟨by rfl, ?_⟩) hHeld ?_ ?_
             rotate_left
             ·rintro w' ⟨s0, s1, s2, s3, s4, s5, s6, s7, s8, s9, s10, s11, s12, s13, s14, s15, s16, s17, s18, s19⟩
              go_simp
              with_reducible rfl
             rotate_left
             ·simp only [Act.put, nrm]
              rfl
             refine pstep 17 (some 52) #[true, true, true, true, true, true, true, true, true, true, true, true, true, true, true, true, true, true, true, true, true, true, false, false, false, false, false, false, false, false, false, false, false, false, false, false, false, false, false, false, false, false, false, false, false, false, false, false, false, false] HT_.out ?_
             refine take_ (i := 22) (N := some 57) (v := ?_) (a' := ?_) #[true, true, true, true, true, true, true, true, true, true, true, true, true, true, true, true, true, true, true, true, true, true, true, false, false, false, false, false, false, false, false, false, false, false, false, false, false, false, false, false, false, false, false, false, false, false, false, false, false, false] rfl rfl (take_ofW HT_.out HW_.out (by kernel_rfl)) (fun _ _ _ h => h) (Or.inl ⟨by rfl, ?_⟩) hHeld ?_ ?_
             rotate_left
             ·rintro w' ⟨s0, s1, s2, s3, s4, s5, s6, s7, s8, s9, s10, s11, s12, s13, s14, s15, s16, s17, s18, s19⟩
              go_simp
              with_reducible rfl
             rotate_left
             ·simp only [Act.put, nrm]
              rfl
             refine pstep 23 (some 58) #[true, true, true, true, true, true, true, true, true, true, true, true, true, true, true, true, true, true, true, true, true, true, true, true, false, false, false, false, false, false, false, false, false, false, false, false, false, false, false, false, false, false, false, false, false, false, false, false, false, false] HT_.out ?_
             refine pstep 24 (some 59) #[true, true, true, true, true, true, true, true, true, true, true, true, true, true, true, true, true, true, true, true, true, true, true, true, true, false, false, false, false, false, false, false, false, false, false, false, false, false, false, false, false, false, false, false, false, false, false, false, false, false] HT_.out ?_
             refine pstep 25 (some 60) #[true, true, true, true, true, true, true, true, true, true, true, true, true, true, true, true, true, true, true, true, true, true, true, true, true, true, false, false, false, false, false, false, false, false, false, false, false, false, false, false, false, false, false, false, false, false, false, false, false, false] HT_.out ?_
             refine pstep 26 (some 61) #[true, true, true, true, true, true, true, true, true, true, true, true, true, true, true, true, true, true, true, true, true, true, true, true, true, true, true, false, false, false, false, false, false, false, false, false, false, false, false, false, false, false, false, false, false, false, false, false, false, false] HT_.out ?_
             refine pure_ (i := 27) (N := some 62) (v := undef) (a' := ?_) #[true, true, true, true, true, true, true, true, true, true, true, true, true, true, true, true, true, true, true, true, true, true, true, true, true, true, true, true, false, false, false, false, false, false, false, false, false, false, false, false, false, false, false, false, false, false, false, false, false, false] rfl rfl (any_of HT_.out (by kernel_rfl)) (fun _ _ _ h => h) (Or.inr ⟨by rfl, rfl⟩) ?_ ?_
             rotate_left
             ·simp only [Act.put, nrm]
              rfl
             refine pure_ (i := 28) (N := some 63) (v := undef) (a' := ?_) #[true, true, true, true, true, true, true, true, true, true, true, true, true, true, true, true, true, true, true, true, true, true, true, true, true, true, true, true, true, false, false, false, false, false, false, false, false, false, false, false, false, false, false, false, false, false, false, false, false, false] rfl rfl (any_of HT_.out (by kernel_rfl)) (fun _ _ _ h => h) (Or.inr ⟨by rfl, rfl⟩) ?_ ?_
             rotate_left
             ·simp only [Act.put, nrm]
              rfl
             refine pure_ (i := 29) (N := some 64) (v := undef) (a' := ?_) #[true, true, true, true, true, true, true, true, true, true, true, true, true, true, true, true, true, true, true, true, true, true, true, true, true, true, true, true, true, true, false, false, false, false, false, false, false, false, false, false, false, false, false, false, false, false, false, false, false, false] rfl rfl (any_of HT_.out (by kernel_rfl)) (fun _ _ _ h => h) (Or.inr ⟨by rfl, rfl⟩) ?_ ?_
             rotate_left
             ·simp only [Act.put, nrm]
              rfl
             refine pure_ (i := 30) (N := some 65) (v := undef) (a' := ?_) #[true, true, true, true, true, true, true, true, true, true, true, true, true, true, true, true, true, true, true, true, true, true, true, true, true, true, true, true, true, true, true, false, false, false, false, false, false, false, false, false, false, false, false, false, false, false, false, false, false, false] rfl rfl (any_of HT_.out (by kernel_rfl)) (fun _ _ _ h => h) (Or.inr ⟨by rfl, rfl⟩) ?_ ?_
             rotate_left
             ·simp only [Act.put, nrm]
              rfl
             refine pure_ (i := 31) (N := some 66) (v := undef) (a' := ?_) #[true, true, true, true, true, true, true, true, true, true, true, true, true, true, true, true, true, true, true, true, true, true, true, true, true, true, true, true, true, true, true, true, false, false, false, false, false, false, false, false, false, false, false, false, false, false, false, false, false, false] rfl rfl (any_of HT_.out (by kernel_rfl)) (fun _ _ _ h => h) (Or.inr ⟨by rfl, rfl⟩) ?_ ?_
             rotate_left
             ·simp only [Act.put, nrm]
              rfl
             refine pure_ (i := 32) (N := some 67) (v := undef) (a' := ?_) #[true, true, true, true, true, true, true, true, true, true, true, true, true, true, true, true, true, true, true, true, true, true, true, true, true, true, true, true, true, true, true, true, true, false, false, false, false, false, false, false, false, false, false, false, false, false, false, false, false, false] rfl rfl (any_of HT_.out (by kernel_rfl)) (fun _ _ _ h => h) (Or.inr ⟨by rfl, rfl⟩) ?_ ?_
             rotate_left
             ·simp only [Act.put, nrm]
              rfl
             refine pstep 33 (some 68) #[true, true, true, true, true, true, true, true, true, true, true, true, true, true, true, true, true, true, true, true, true, true, true, true, true, true, true, true, true, true, true, true, true, true, false, false, false, false, false, false, false, false, false, false, false, false, false, false, false, false] HT_.out ?_
             refine pstep 34 (some 69) #[true, true, true, true, true, true, true, true, true, true, true, true, true, true, true, true, true, true, true, true, true, true, true, true, true, true, true, true, true, true, true, true, true, true, true, false, false, false, false, false, false, false, false, false, false, false, false, false, false, false] HT_.out ?_
             refine pure_ (i := 35) (N := some 70) (v := undef) (a' := ?_) #[true, true, true, true, true, true, true, true, true, true, true, true, true, true, true, true, true, true, true, true, true, true, true, true, true, true, true, true, true, true, true, true, true, true, true, true, false, false, false, false, false, false, false, false, false, false, false, false, false, false] rfl rfl (any_of HT_.out (by kernel_rfl)) (fun _ _ _ h => h) (Or.inr ⟨by rfl, rfl⟩) ?_ ?_
             rotate_left
             ·simp only [Act.put, nrm]
              rfl
             refine pure_ (i := 36) (N := some 71) (v := undef) (a' := ?_) #[true, true, true, true, true, true, true, true, true, true, true, true, true, true, true, true, true, true, true, true, true, true, true, true, true, true, true, true, true, true, true, true, true, true, true, true, true, false, false, false, false, false, false, false, false, false, false, false, false, false] rfl rfl (any_of HT_.out (by kernel_rfl)) (fun _ _ _ h => h) (Or.inr ⟨by rfl, rfl⟩) ?_ ?_
             rotate_left
             ·simp only [Act.put, nrm]
              rfl
             refine pure_ (i := 37) (N := some 72) (v := undef) (a' := ?_) #[true, true, true, true, true, true, true, true, true, true, true, true, true, true, true, true, true, true, true, true, true, true, true, true, true, true, true, true, true, true, true, true, true, true, true, true, true, true, false, false, false, false, false, false, false, false, false, false, false, false] rfl rfl (any_of HT_.out (by kernel_rfl)) (fun _ _ _ h => h) (Or.inr ⟨by rfl, rfl⟩) ?_ ?_
             rotate_left
             ·simp only [Act.put, nrm]
              rfl
             refine pure_ (i := 38) (N := some 73) (v := undef) (a' := ?_) #[true, true, true, true, true, true, true, true, true, true, true, true, true, true, true, true, true, true, true, true, true, true, true, true, true, true, true, true, true, true, true, true, true, true, true, true, true, true, true, false, false, false, false, false, false, false, false, false, false, false] rfl rfl (any_of HT_.out (by kernel_rfl)) (fun _ _ _ h => h) (Or.inr ⟨by rfl, rfl⟩) ?_ ?_
             rotate_left
             ·simp only [Act.put, nrm]
              rfl
             refine pure_ (i := 39) (N := some 74) (v := undef) (a' := ?_) #[true, true, true, true, true, true, true, true, true, true, true, true, true, true, true, true, true, true, true, true, true, true, true, true, true, true, true, true, true, true, true, true, true, true, true, true, true, true, true, true, false, false, false, false, false, false, false, false, false, false] rfl rfl (any_of HT_.out (by kernel_rfl)) (fun _ _ _ h => h) (Or.inr ⟨by rfl, rfl⟩) ?_ ?_
             rotate_left
             ·simp only [Act.put, nrm]
              rfl
             refine pure_ (i := 40) (N := some 75) (v := undef) (a' := ?_) #[true, true, true, true, true, true, true, true, true, true, true, true, true, true, true, true, true, true, true, true, true, true, true, true, true, true, true, true, true, true, true, true, true, true, true, true, true, true, true, true, true, false, false, false, false, false, false, false, false, false] rfl rfl (any_of HT_.out (by kernel_rfl)) (fun _ _ _ h => h) (Or.inr ⟨by rfl, rfl⟩) ?_ ?_
             rotate_left
             ·simp only [Act.put, nrm]
              rfl
             refine pstep 41 (some 76) #[true, true, true, true, true, true, true, true, true, true, true, true, true, true, true, true, true, true, true, true, true, true, true, true, true, true, true, true, true, true, true, true, true, true, true, true, true, true, true, true, true, true, false, false, false, false, false, false, false, false] HT_.out ?_
             refine pstep 42 (some 77) #[true, true, true, true, true, true, true, true, true, true, true, true, true, true, true, true, true, true, true, true, true, true, true, true, true, true, true, true, true, true, true, true, true, true, true, true, true, true, true, true, true, true, true, false, false, false, false, false, false, false] HT_.out ?_
             refine pure_ (i := 43) (N := some 78) (v := undef) (a' := ?_) #[true, true, true, true, true, true, true, true, true, true, true, true, true, true, true, true, true, true, true, true, true, true, true, true, true, true, true, true, true, true, true, true, true, true, true, true, true, true, true, true, true, true, true, true, false, false, false, false, false, false] rfl rfl (any_of HT_.out (by kernel_rfl)) (fun _ _ _ h => h) (Or.inr ⟨by rfl, rfl⟩) ?_ ?_
             rotate_left
             ·simp only [Act.put, nrm]
              rfl
             refine pure_ (i := 44) (N := some 79) (v := undef) (a' := ?_) #[true, true, true, true, true, true, true, true, true, true, true, true, true, true, true, true, true, true, true, true, true, true, true, true, true, true, true, true, true, true, true, true, true, true, true, true, true, true, true, true, true, true, true, true, true, false, false, false, false, false] rfl rfl (any_of HT_.out (by kernel_rfl)) (fun _ _ _ h => h) (Or.inr ⟨by rfl, rfl⟩) ?_ ?_
             rotate_left
             ·simp only [Act.put, nrm]
              rfl
             refine pure_ (i := 45) (N := some 80) (v := undef) (a' := ?_) #[true, true, true, true, true, true, true, true, true, true, true, true, true, true, true, true, true, true, true, true, true, true, true, true, true, true, true, true, true, true, true, true, true, true, true, true, true, true, true, true, true, true, true, true, true, true, false, false, false, false] rfl rfl (any_of HT_.out (by kernel_rfl)) (fun _ _ _ h => h) (Or.inr ⟨by rfl, rfl⟩) ?_ ?_
             rotate_left
             ·simp only [Act.put, nrm]
              rfl
             refine pure_ (i := 46) (N := some 81) (v := undef) (a' := ?_) #[true, true, true, true, true, true, true, true, true, true, true, true, true, true, true, true, true, true, true, true, true, true, true, true, true, true, true, true, true, true, true, true, true, true, true, true, true, true, true, true, true, true, true, true, true, true, true, false, false, false] rfl rfl (any_of HT_.out (by kernel_rfl)) (fun _ _ _ h => h) (Or.inr ⟨by rfl, rfl⟩) ?_ ?_
             rotate_left
             ·simp only [Act.put, nrm]
              rfl
             refine pure_ (i := 47) (N := some 82) (v := undef) (a' := ?_) #[true, true, true, true, true, true, true, true, true, true, true, true, true, true, true, true, true, true, true, true, true, true, true, true, true, true, true, true, true, true, true, true, true, true, true, true, true, true, true, true, true, true, true, true, true, true, true, true, false, false] rfl rfl (any_of HT_.out (by kernel_rfl)) (fun _ _ _ h => h) (Or.inr ⟨by rfl, rfl⟩) ?_ ?_
             rotate_left
             ·simp only [Act.put, nrm]
              rfl
             refine pure_ (i := 48) (N := some 83) (v := undef) (a' := ?_) #[true, true, true, true, true, true, true, true, true, true, true, true, true, true, true, true, true, true, true, true, true, true, true, true, true, true, true, true, true, true, true, true, true, true, true, true, true, true, true, true, true, true, true, true, true, true, true, true, true, false] rfl rfl (any_of HT_.out (by kernel_rfl)) (fun _ _ _ h => h) (Or.inr ⟨by rfl, rfl⟩) ?_ ?_
             rotate_left
             ·simp only [Act.put, nrm]
              rfl
             refine pstep 49 (some 84) #[true, true, true, true, true, true, true, true, true, true, true, true, true, true, true, true, true, true, true, true, true, true, true, true, true, true, true, true, true, true, true, true, true, true, true, true, true, true, true, true, true, true, true, true, true, true, true, true, true, true] HT_.out ?_
             refine done_ (done_of HT_.out (by kernel_rfl)) ?_
             try go_wp2
             go_meet
             case rel => exact ⟨_, (true), (by first | rfl | (simp; done) | (simp [*]; done)), H', ⟨by have := HJ3.out; have := HJ13.out; have := HK3.out; first | omega | exact Nat.le_refl _⟩, ⟨by (with_reducible repeat (first | apply Kd.R_alloc | apply Kd.R_drewN | apply Kd.R_drew)); exact HO_5.out⟩, ⟨by (with_reducible repeat (first | refine blk_drewN ?_ _ | refine blk_drew ?_ | refine blk_alloc ?_ _)); exact BK214.out⟩, ⟨by repeat (first | (with_reducible first | exact HB.out | apply below_alloc | apply pw_below_drewN | apply below_drew1 | refine below_set ?_ GE214.out) | exact HB.out)⟩⟩
           ·rw [if_neg c21] at H
            have c21b0 : (((rd_T46 t215 x9_3).f0) == ((rd_T46 l1 x9_3).f0)) = false := beq_eq_false_iff_ne.mpr c21
            have c21b1 : (((rd_T46 t215 x9_3).f0) != ((rd_T46 l1 x9_3).f0)) = true := bne_iff_ne.mpr c21
            have H' := Aside0.mk H
            clear H
            try go_wp2
            have n0_ := Aside0.mk (Kd.R_drew HO_5.out)
            have n1_ := Aside0.mk (blk_drew BK214.out)
            have n2_ := Aside0.mk (below_drew1 HB.out)
            clear HO_5
            clear BK214
            clear HB
            have HO_5 := n0_
            have BK214 := n1_
            have HB := n2_
            clear n0_ n1_ n2_
            have p220 : 0 ≤ (x9_3 : Int) := of_decide_eq_true (by first | (with_reducible assumption) | assumption)
            have q220 : x9_3 < (t215.length : Int) := of_decide_eq_true (by first | (with_reducible assumption) | assumption)
            obtain ⟨ad220, e220, hx220_0, hx220_1, hx220_2, hx220_3, hx220_4⟩ := at_T46 (Kd.R_reads' HO_5.out).2.2 x9_3 p220 q220
            cases e220
            replace p220 := eq_true p220
            replace q220 := eq_true q220
            have p221 : 0 ≤ (x9_3 : Int) := of_decide_eq_true (by first | (with_reducible assumption) | assumption)
            have q221 : x9_3 < (l1.length : Int) := of_decide_eq_true (by first | (with_reducible assumption) | assumption)
            obtain ⟨ad221, e221, hx221_0, hx221_1, hx221_2, hx221_3, hx221_4⟩ := at_T46 HR1.out x9_3 p221 q221
            have hw221_4 := hx221_4
            have hw221_3 := hx221_3
            have hw221_2 := hx221_2
            have hw221_1 := hx221_1
            have hw221_0 := hx221_0
            cases e221
            replace hx221_0 := (HB.out.cell (World.block_lt_of_cell? w _ hx221_0)).trans hx221_0
            replace hx221_1 := (HB.out.cell (World.block_lt_of_cell? w _ hx221_1)).trans hx221_1
            replace hx221_2 := (HB.out.cell (World.block_lt_of_cell? w _ hx221_2)).trans hx221_2
            replace hx221_3 := (HB.out.cell (World.block_lt_of_cell? w _ hx221_3)).trans hx221_3
            replace hx221_4 := (HB.out.cell (World.block_lt_of_cell? w _ hx221_4)).trans hx221_4
            replace p221 := eq_true p221
            replace q221 := eq_true q221
            refine start_ (n := 50) (S := fun w' => w'.cell? (ad220.add ((x9_3).toNat * 5)) = some (.int .i64 ((rd_T46 t215 x9_3).f0)) ∧ w'.cell? ⟨(ad220.add ((x9_3).toNat * 5)).block, (ad220.add ((x9_3).toNat * 5)).off + 1, none⟩ = some (.int .i64 ((rd_T46 t215 x9_3).f1)) ∧ w'.cell? ⟨(ad220.add ((x9_3).toNat * 5)).block, (ad220.add ((x9_3).toNat * 5)).off + 2, none⟩ = some (.int .i64 ((rd_T46 t215 x9_3).f2)) ∧ w'.cell? ⟨(ad220.add ((x9_3).toNat * 5)).block, (ad220.add ((x9_3).toNat * 5)).off + 3, none⟩ = some (.string ((rd_T46 t215 x9_3).f3)) ∧ w'.cell? ⟨(ad220.add ((x9_3).toNat * 5)).block, (ad220.add ((x9_3).toNat * 5)).off + 4, none⟩ = some (.int .i64 ((rd_T46 t215 x9_3).f4)) ∧ w'.cell? (ad221.add ((x9_3).toNat * 5)) = some (.int .i64 ((rd_T46 l1 x9_3).f0)) ∧ w'.cell? ⟨(ad221.add ((x9_3).toNat * 5)).block, (ad221.add ((x9_3).toNat * 5)).off + 1, none⟩ = some (.int .i64 ((rd_T46 l1 x9_3).f1)) ∧ w'.cell? ⟨(ad221.add ((x9_3).toNat * 5)).block, (ad221.add ((x9_3).toNat * 5)).off + 2, none⟩ = some (.int .i64 ((rd_T46 l1 x9_3).f2)) ∧ w'.cell? ⟨(ad221.add ((x9_3).toNat * 5)).block, (ad221.add ((x9_3).toNat * 5)).off + 3, none⟩ = some (.string ((rd_T46 l1 x9_3).f3)) ∧ w'.cell? ⟨(ad221.add ((x9_3).toNat * 5)).block, (ad221.add ((x9_3).toNat * 5)).off + 4, none⟩ = some (.int .i64 ((rd_T46 l1 x9_3).f4))) (ds := []) #[false, false, false, false, false, false, false, false, false, false, false, false, false, false, false, false, false, false, false, false, false, false, false, false, false, false, false, false, false, false, false, false, false, false, false, false, false, false, false, false, false, false, false, false, false, false, false, false, false, false] (by kernel_rfl) rfl rfl ⟨hx220_0, hx220_1, hx220_2, hx220_3, hx220_4, ((HB.out.cell (World.block_lt_of_cell? w _ hw221_0)).trans hw221_0), ((HB.out.cell (World.block_lt_of_cell? w _ hw221_1)).trans hw221_1), ((HB.out.cell (World.block_lt_of_cell? w _ hw221_2)).trans hw221_2), ((HB.out.cell (World.block_lt_of_cell? w _ hw221_3)).trans hw221_3), ((HB.out.cell (World.block_lt_of_cell? w _ hw221_4)).trans hw221_4)⟩ (fun hHeld => ?_); refine with_tabW signalbenchlaw20_ScrambleRoundTrips.tab11 signalbenchlaw20_ScrambleRoundTrips.bits11 (fun HT_ HW_ => ?_)
            generalize wr.drew = w29 at HO_5 BK214 HB hx220_0 hx220_1 hx220_2 hx220_3 hx220_4 hx221_0 hx221_1 hx221_2 hx221_3 hx221_4 hHeld ⊢
            refine pstep 0 (some 35) #[true, false, false, false, false, false, false, false, false, false, false, false, false, false, false, false, false, false, false, false, false, false, false, false, false, false, false, false, false, false, false, false, false, false, false, false, false, false, false, false, false, false, false, false, false, false, false, false, false, false] HT_.out ?_
            refine pstep 1 (some 36) #[true, true, false, false, false, false, false, false, false, false, false, false, false, false, false, false, false, false, false, false, false, false, false, false, false, false, false, false, false, false, false, false, false, false, false, false, false, false, false, false, false, false, false, false, false, false, false, false, false, false] HT_.out ?_
            refine pstep 2 (some 37) #[true, true, true, false, false, false, false, false, false, false, false, false, false, false, false, false, false, false, false, false, false, false, false, false, false, false, false, false, false, false, false, false, false, false, false, false, false, false, false, false, false, false, false, false, false, false, false, false, false, false] HT_.out ?_
            refine pstep 3 (some 38) #[true, true, true, true, false, false, false, false, false, false, false, false, false, false, false, false, false, false, false, false, false, false, false, false, false, false, false, false, false, false, false, false, false, false, false, false, false, false, false, false, false, false, false, false, false, false, false, false, false, false] HT_.out ?_
            refine pstep 5 (some 40) #[true, true, true, true, false, true, false, false, false, false, false, false, false, false, false, false, false, false, false, false, false, false, false, false, false, false, false, false, false, false, false, false, false, false, false, false, false, false, false, false, false, false, false, false, false, false, false, false, false, false] HT_.out ?_
            refine pstep 6 (some 41) #[true, true, true, true, false, true, true, false, false, false, false, false, false, false, false, false, false, false, false, false, false, false, false, false, false, false, false, false, false, false, false, false, false, false, false, false, false, false, false, false, false, false, false, false, false, false, false, false, false, false] HT_.out ?_
            refine pstep 7 (some 42) #[true, true, true, true, false, true, true, true, false, false, false, false, false, false, false, false, false, false, false, false, false, false, false, false, false, false, false, false, false, false, false, false, false, false, false, false, false, false, false, false, false, false, false, false, false, false, false, false, false, false] HT_.out ?_
            refine pstep 8 (some 43) #[true, true, true, true, false, true, true, true, true, false, false, false, false, false, false, false, false, false, false, false, false, false, false, false, false, false, false, false, false, false, false, false, false, false, false, false, false, false, false, false, false, false, false, false, false, false, false, false, false, false] HT_.out ?_
            refine take_ (i := 4) (N := some 39) (v := ?_) (a' := ?_) #[true, true, true, true, true, true, true, true, true, false, false, false, false, false, false, false, false, false, false, false, false, false, false, false, false, false, false, false, false, false, false, false, false, false, false, false, false, false, false, false, false, false, false, false, false, false, false, false, false, false] rfl rfl (take_ofW HT_.out HW_.out (by kernel_rfl)) (fun _ _ _ h => h) (Or.inl ⟨by rfl, ?_⟩) hHeld ?_ ?_
            rotate_left
            ·rintro w' ⟨s0, s1, s2, s3, s4, s5, s6, s7, s8, s9⟩
             go_simp
             with_reducible rfl
            rotate_left
            ·simp only [Act.put, nrm]
             rfl
            refine take_ (i := 9) (N := some 44) (v := ?_) (a' := ?_) #[true, true, true, true, true, true, true, true, true, true, false, false, false, false, false, false, false, false, false, false, false, false, false, false, false, false, false, false, false, false, false, false, false, false, false, false, false, false, false, false, false, false, false, false, false, false, false, false, false, false] rfl rfl (take_ofW HT_.out HW_.out (by kernel_rfl)) (fun _ _ _ h => h) (Or.inl ⟨by rfl, ?_⟩) hHeld ?_ ?_
            rotate_left
            ·rintro w' ⟨s0, s1, s2, s3, s4, s5, s6, s7, s8, s9⟩
             go_simp
             with_reducible rfl
            rotate_left
            ·simp only [Act.put, nrm]
             rfl
            refine pstep 10 (some 45) #[true, true, true, true, true, true, true, true, true, true, true, false, false, false, false, false, false, false, false, false, false, false, false, false, false, false, false, false, false, false, false, false, false, false, false, false, false, false, false, false, false, false, false, false, false, false, false, false, false, false] HT_.out ?_
            refine pstep 11 (some 46) #[true, true, true, true, true, true, true, true, true, true, true, true, false, false, false, false, false, false, false, false, false, false, false, false, false, false, false, false, false, false, false, false, false, false, false, false, false, false, false, false, false, false, false, false, false, false, false, false, false, false] HT_.out ?_
            refine pure_ (i := 12) (N := some 47) (v := undef) (a' := ?_) #[true, true, true, true, true, true, true, true, true, true, true, true, true, false, false, false, false, false, false, false, false, false, false, false, false, false, false, false, false, false, false, false, false, false, false, false, false, false, false, false, false, false, false, false, false, false, false, false, false, false] rfl rfl (any_of HT_.out (by kernel_rfl)) (fun _ _ _ h => h) (Or.inr ⟨by rfl, rfl⟩) ?_ ?_
            rotate_left
            ·simp only [Act.put, nrm]
             rfl
            refine pure_ (i := 13) (N := some 48) (v := undef) (a' := ?_) #[true, true, true, true, true, true, true, true, true, true, true, true, true, true, false, false, false, false, false, false, false, false, false, false, false, false, false, false, false, false, false, false, false, false, false, false, false, false, false, false, false, false, false, false, false, false, false, false, false, false] rfl rfl (any_of HT_.out (by kernel_rfl)) (fun _ _ _ h => h) (Or.inr ⟨by rfl, rfl⟩) ?_ ?_
            rotate_left
            ·simp only [Act.put, nrm]
             rfl
            refine pure_ (i := 14) (N := some 49) (v := undef) (a' := ?_) #[true, true, true, true, true, true, true, true, true, true, true, true, true, true, true, false, false, false, false, false, false, false, false, false, false, false, false, false, false, false, false, false, false, false, false, false, false, false, false, false, false, false, false, false, false, false, false, false, false, false] rfl rfl (any_of HT_.out (by kernel_rfl)) (fun _ _ _ h => h) (Or.inr ⟨by rfl, rfl⟩) ?_ ?_
            rotate_left
            ·simp only [Act.put, nrm]
             rfl
            refine pure_ (i := 15) (N := some 50) (v := undef) (a' := ?_) #[true, true, true, true, true, true, true, true, true, true, true, true, true, true, true, true, false, false, false, false, false, false, false, false, false, false, false, false, false, false, false, false, false, false, false, false, false, false, false, false, false, false, false, false, false, false, false, false, false, false] rfl rfl (any_of HT_.out (by kernel_rfl)) (fun _ _ _ h => h) (Or.inr ⟨by rfl, rfl⟩) ?_ ?_
            rotate_left
            ·simp only [Act.put, nrm]
             rfl
            refine pure_ (i := 16) (N := some 51) (v := undef) (a' := ?_) #[true, true, true, true, true, true, true, true, true, true, true, true, true, true, true, true, true, false, false, false, false, false, false, false, false, false, false, false, false, false, false, false, false, false, false, false, false, false, false, false, false, false, false, false, false, false, false, false, false, false] rfl rfl (any_of HT_.out (by kernel_rfl)) (fun _ _ _ h => h) (Or.inr ⟨by rfl, rfl⟩) ?_ ?_
            rotate_left
            ·simp only [Act.put, nrm]
             rfl
            refine pure_ (i := 17) (N := some 52) (v := undef) (a' := ?_) #[true, true, true, true, true, true, true, true, true, true, true, true, true, true, true, true, true, true, false, false, false, false, false, false, false, false, false, false, false, false, false, false, false, false, false, false, false, false, false, false, false, false, false, false, false, false, false, false, false, false] rfl rfl (any_of HT_.out (by kernel_rfl)) (fun _ _ _ h => h) (Or.inr ⟨by rfl, rfl⟩) ?_ ?_
            rotate_left
            ·simp only [Act.put, nrm]
             rfl
            refine pure_ (i := 18) (N := some 53) (v := undef) (a' := ?_) #[true, true, true, true, true, true, true, true, true, true, true, true, true, true, true, true, true, true, true, false, false, false, false, false, false, false, false, false, false, false, false, false, false, false, false, false, false, false, false, false, false, false, false, false, false, false, false, false, false, false] rfl rfl (any_of HT_.out (by kernel_rfl)) (fun _ _ _ h => h) (Or.inr ⟨by rfl, rfl⟩) ?_ ?_
            rotate_left
            ·simp only [Act.put, nrm]
             rfl
            refine pure_ (i := 19) (N := some 54) (v := undef) (a' := ?_) #[true, true, true, true, true, true, true, true, true, true, true, true, true, true, true, true, true, true, true, true, false, false, false, false, false, false, false, false, false, false, false, false, false, false, false, false, false, false, false, false, false, false, false, false, false, false, false, false, false, false] rfl rfl (any_of HT_.out (by kernel_rfl)) (fun _ _ _ h => h) (Or.inr ⟨by rfl, rfl⟩) ?_ ?_
            rotate_left
            ·simp only [Act.put, nrm]
             rfl
            refine pure_ (i := 20) (N := some 55) (v := undef) (a' := ?_) #[true, true, true, true, true, true, true, true, true, true, true, true, true, true, true, true, true, true, true, true, true, false, false, false, false, false, false, false, false, false, false, false, false, false, false, false, false, false, false, false, false, false, false, false, false, false, false, false, false, false] rfl rfl (any_of HT_.out (by kernel_rfl)) (fun _ _ _ h => h) (Or.inr ⟨by rfl, rfl⟩) ?_ ?_
            rotate_left
            ·simp only [Act.put, nrm]
             rfl
            refine pure_ (i := 21) (N := some 56) (v := undef) (a' := ?_) #[true, true, true, true, true, true, true, true, true, true, true, true, true, true, true, true, true, true, true, true, true, true, false, false, false, false, false, false, false, false, false, false, false, false, false, false, false, false, false, false, false, false, false, false, false, false, false, false, false, false] rfl rfl (any_of HT_.out (by kernel_rfl)) (fun _ _ _ h => h) (Or.inr ⟨by rfl, rfl⟩) ?_ ?_
            rotate_left
            ·simp only [Act.put, nrm]
             rfl
            refine pure_ (i := 22) (N := some 57) (v := undef) (a' := ?_) #[true, true, true, true, true, true, true, true, true, true, true, true, true, true, true, true, true, true, true, true, true, true, true, false, false, false, false, false, false, false, false, false, false, false, false, false, false, false, false, false, false, false, false, false, false, false, false, false, false, false] rfl rfl (any_of HT_.out (by kernel_rfl)) (fun _ _ _ h => h) (Or.inr ⟨by rfl, rfl⟩) ?_ ?_
            rotate_left
            ·simp only [Act.put, nrm]
             rfl
            refine pure_ (i := 23) (N := some 58) (v := undef) (a' := ?_) #[true, true, true, true, true, true, true, true, true, true, true, true, true, true, true, true, true, true, true, true, true, true, true, true, false, false, false, false, false, false, false, false, false, false, false, false, false, false, false, false, false, false, false, false, false, false, false, false, false, false] rfl rfl (any_of HT_.out (by kernel_rfl)) (fun _ _ _ h => h) (Or.inr ⟨by rfl, rfl⟩) ?_ ?_
            rotate_left
            ·simp only [Act.put, nrm]
             rfl
            refine pure_ (i := 24) (N := some 59) (v := undef) (a' := ?_) #[true, true, true, true, true, true, true, true, true, true, true, true, true, true, true, true, true, true, true, true, true, true, true, true, true, false, false, false, false, false, false, false, false, false, false, false, false, false, false, false, false, false, false, false, false, false, false, false, false, false] rfl rfl (any_of HT_.out (by kernel_rfl)) (fun _ _ _ h => h) (Or.inr ⟨by rfl, rfl⟩) ?_ ?_
            rotate_left
            ·simp only [Act.put, nrm]
             rfl
            refine pstep 25 (some 60) #[true, true, true, true, true, true, true, true, true, true, true, true, true, true, true, true, true, true, true, true, true, true, true, true, true, true, false, false, false, false, false, false, false, false, false, false, false, false, false, false, false, false, false, false, false, false, false, false, false, false] HT_.out ?_
            refine pstep 26 (some 61) #[true, true, true, true, true, true, true, true, true, true, true, true, true, true, true, true, true, true, true, true, true, true, true, true, true, true, true, false, false, false, false, false, false, false, false, false, false, false, false, false, false, false, false, false, false, false, false, false, false, false] HT_.out ?_
            refine pure_ (i := 27) (N := some 62) (v := undef) (a' := ?_) #[true, true, true, true, true, true, true, true, true, true, true, true, true, true, true, true, true, true, true, true, true, true, true, true, true, true, true, true, false, false, false, false, false, false, false, false, false, false, false, false, false, false, false, false, false, false, false, false, false, false] rfl rfl (any_of HT_.out (by kernel_rfl)) (fun _ _ _ h => h) (Or.inr ⟨by rfl, rfl⟩) ?_ ?_
            rotate_left
            ·simp only [Act.put, nrm]
             rfl
            refine pure_ (i := 28) (N := some 63) (v := undef) (a' := ?_) #[true, true, true, true, true, true, true, true, true, true, true, true, true, true, true, true, true, true, true, true, true, true, true, true, true, true, true, true, true, false, false, false, false, false, false, false, false, false, false, false, false, false, false, false, false, false, false, false, false, false] rfl rfl (any_of HT_.out (by kernel_rfl)) (fun _ _ _ h => h) (Or.inr ⟨by rfl, rfl⟩) ?_ ?_
            rotate_left
            ·simp only [Act.put, nrm]
             rfl
            refine pure_ (i := 29) (N := some 64) (v := undef) (a' := ?_) #[true, true, true, true, true, true, true, true, true, true, true, true, true, true, true, true, true, true, true, true, true, true, true, true, true, true, true, true, true, true, false, false, false, false, false, false, false, false, false, false, false, false, false, false, false, false, false, false, false, false] rfl rfl (any_of HT_.out (by kernel_rfl)) (fun _ _ _ h => h) (Or.inr ⟨by rfl, rfl⟩) ?_ ?_
            rotate_left
            ·simp only [Act.put, nrm]
             rfl
            refine pure_ (i := 30) (N := some 65) (v := undef) (a' := ?_) #[true, true, true, true, true, true, true, true, true, true, true, true, true, true, true, true, true, true, true, true, true, true, true, true, true, true, true, true, true, true, true, false, false, false, false, false, false, false, false, false, false, false, false, false, false, false, false, false, false, false] rfl rfl (any_of HT_.out (by kernel_rfl)) (fun _ _ _ h => h) (Or.inr ⟨by rfl, rfl⟩) ?_ ?_
            rotate_left
            ·simp only [Act.put, nrm]
             rfl
            refine pure_ (i := 31) (N := some 66) (v := undef) (a' := ?_) #[true, true, true, true, true, true, true, true, true, true, true, true, true, true, true, true, true, true, true, true, true, true, true, true, true, true, true, true, true, true, true, true, false, false, false, false, false, false, false, false, false, false, false, false, false, false, false, false, false, false] rfl rfl (any_of HT_.out (by kernel_rfl)) (fun _ _ _ h => h) (Or.inr ⟨by rfl, rfl⟩) ?_ ?_
            rotate_left
            ·simp only [Act.put, nrm]
             rfl
            refine pure_ (i := 32) (N := some 67) (v := undef) (a' := ?_) #[true, true, true, true, true, true, true, true, true, true, true, true, true, true, true, true, true, true, true, true, true, true, true, true, true, true, true, true, true, true, true, true, true, false, false, false, false, false, false, false, false, false, false, false, false, false, false, false, false, false] rfl rfl (any_of HT_.out (by kernel_rfl)) (fun _ _ _ h => h) (Or.inr ⟨by rfl, rfl⟩) ?_ ?_
            rotate_left
            ·simp only [Act.put, nrm]
             rfl
            refine pstep 33 (some 68) #[true, true, true, true, true, true, true, true, true, true, true, true, true, true, true, true, true, true, true, true, true, true, true, true, true, true, true, true, true, true, true, true, true, true, false, false, false, false, false, false, false, false, false, false, false, false, false, false, false, false] HT_.out ?_
            refine pstep 34 (some 69) #[true, true, true, true, true, true, true, true, true, true, true, true, true, true, true, true, true, true, true, true, true, true, true, true, true, true, true, true, true, true, true, true, true, true, true, false, false, false, false, false, false, false, false, false, false, false, false, false, false, false] HT_.out ?_
            refine pure_ (i := 35) (N := some 70) (v := undef) (a' := ?_) #[true, true, true, true, true, true, true, true, true, true, true, true, true, true, true, true, true, true, true, true, true, true, true, true, true, true, true, true, true, true, true, true, true, true, true, true, false, false, false, false, false, false, false, false, false, false, false, false, false, false] rfl rfl (any_of HT_.out (by kernel_rfl)) (fun _ _ _ h => h) (Or.inr ⟨by rfl, rfl⟩) ?_ ?_
            rotate_left
            ·simp only [Act.put, nrm]
             rfl
            refine pure_ (i := 36) (N := some 71) (v := undef) (a' := ?_) #[true, true, true, true, true, true, true, true, true, true, true, true, true, true, true, true, true, true, true, true, true, true, true, true, true, true, true, true, true, true, true, true, true, true, true, true, true, false, false, false, false, false, false, false, false, false, false, false, false, false] rfl rfl (any_of HT_.out (by kernel_rfl)) (fun _ _ _ h => h) (Or.inr ⟨by rfl, rfl⟩) ?_ ?_
            rotate_left
            ·simp only [Act.put, nrm]
             rfl
            refine pure_ (i := 37) (N := some 72) (v := undef) (a' := ?_) #[true, true, true, true, true, true, true, true, true, true, true, true, true, true, true, true, true, true, true, true, true, true, true, true, true, true, true, true, true, true, true, true, true, true, true, true, true, true, false, false, false, false, false, false, false, false, false, false, false, false] rfl rfl (any_of HT_.out (by kernel_rfl)) (fun _ _ _ h => h) (Or.inr ⟨by rfl, rfl⟩) ?_ ?_
            rotate_left
            ·simp only [Act.put, nrm]
             rfl
            refine pure_ (i := 38) (N := some 73) (v := undef) (a' := ?_) #[true, true, true, true, true, true, true, true, true, true, true, true, true, true, true, true, true, true, true, true, true, true, true, true, true, true, true, true, true, true, true, true, true, true, true, true, true, true, true, false, false, false, false, false, false, false, false, false, false, false] rfl rfl (any_of HT_.out (by kernel_rfl)) (fun _ _ _ h => h) (Or.inr ⟨by rfl, rfl⟩) ?_ ?_
            rotate_left
            ·simp only [Act.put, nrm]
             rfl
            refine pure_ (i := 39) (N := some 74) (v := undef) (a' := ?_) #[true, true, true, true, true, true, true, true, true, true, true, true, true, true, true, true, true, true, true, true, true, true, true, true, true, true, true, true, true, true, true, true, true, true, true, true, true, true, true, true, false, false, false, false, false, false, false, false, false, false] rfl rfl (any_of HT_.out (by kernel_rfl)) (fun _ _ _ h => h) (Or.inr ⟨by rfl, rfl⟩) ?_ ?_
            rotate_left
            ·simp only [Act.put, nrm]
             rfl
            refine pure_ (i := 40) (N := some 75) (v := undef) (a' := ?_) #[true, true, true, true, true, true, true, true, true, true, true, true, true, true, true, true, true, true, true, true, true, true, true, true, true, true, true, true, true, true, true, true, true, true, true, true, true, true, true, true, true, false, false, false, false, false, false, false, false, false] rfl rfl (any_of HT_.out (by kernel_rfl)) (fun _ _ _ h => h) (Or.inr ⟨by rfl, rfl⟩) ?_ ?_
            rotate_left
            ·simp only [Act.put, nrm]
             rfl
            refine pstep 41 (some 76) #[true, true, true, true, true, true, true, true, true, true, true, true, true, true, true, true, true, true, true, true, true, true, true, true, true, true, true, true, true, true, true, true, true, true, true, true, true, true, true, true, true, true, false, false, false, false, false, false, false, false] HT_.out ?_
            refine pstep 42 (some 77) #[true, true, true, true, true, true, true, true, true, true, true, true, true, true, true, true, true, true, true, true, true, true, true, true, true, true, true, true, true, true, true, true, true, true, true, true, true, true, true, true, true, true, true, false, false, false, false, false, false, false] HT_.out ?_
            refine pure_ (i := 43) (N := some 78) (v := undef) (a' := ?_) #[true, true, true, true, true, true, true, true, true, true, true, true, true, true, true, true, true, true, true, true, true, true, true, true, true, true, true, true, true, true, true, true, true, true, true, true, true, true, true, true, true, true, true, true, false, false, false, false, false, false] rfl rfl (any_of HT_.out (by kernel_rfl)) (fun _ _ _ h => h) (Or.inr ⟨by rfl, rfl⟩) ?_ ?_
            rotate_left
            ·simp only [Act.put, nrm]
             rfl
            refine pure_ (i := 44) (N := some 79) (v := undef) (a' := ?_) #[true, true, true, true, true, true, true, true, true, true, true, true, true, true, true, true, true, true, true, true, true, true, true, true, true, true, true, true, true, true, true, true, true, true, true, true, true, true, true, true, true, true, true, true, true, false, false, false, false, false] rfl rfl (any_of HT_.out (by kernel_rfl)) (fun _ _ _ h => h) (Or.inr ⟨by rfl, rfl⟩) ?_ ?_
            rotate_left
            ·simp only [Act.put, nrm]
             rfl
            refine pure_ (i := 45) (N := some 80) (v := undef) (a' := ?_) #[true, true, true, true, true, true, true, true, true, true, true, true, true, true, true, true, true, true, true, true, true, true, true, true, true, true, true, true, true, true, true, true, true, true, true, true, true, true, true, true, true, true, true, true, true, true, false, false, false, false] rfl rfl (any_of HT_.out (by kernel_rfl)) (fun _ _ _ h => h) (Or.inr ⟨by rfl, rfl⟩) ?_ ?_
            rotate_left
            ·simp only [Act.put, nrm]
             rfl
            refine pure_ (i := 46) (N := some 81) (v := undef) (a' := ?_) #[true, true, true, true, true, true, true, true, true, true, true, true, true, true, true, true, true, true, true, true, true, true, true, true, true, true, true, true, true, true, true, true, true, true, true, true, true, true, true, true, true, true, true, true, true, true, true, false, false, false] rfl rfl (any_of HT_.out (by kernel_rfl)) (fun _ _ _ h => h) (Or.inr ⟨by rfl, rfl⟩) ?_ ?_
            rotate_left
            ·simp only [Act.put, nrm]
             rfl
            refine pure_ (i := 47) (N := some 82) (v := undef) (a' := ?_) #[true, true, true, true, true, true, true, true, true, true, true, true, true, true, true, true, true, true, true, true, true, true, true, true, true, true, true, true, true, true, true, true, true, true, true, true, true, true, true, true, true, true, true, true, true, true, true, true, false, false] rfl rfl (any_of HT_.out (by kernel_rfl)) (fun _ _ _ h => h) (Or.inr ⟨by rfl, rfl⟩) ?_ ?_
            rotate_left
            ·simp only [Act.put, nrm]
             rfl
            refine pure_ (i := 48) (N := some 83) (v := undef) (a' := ?_) #[true, true, true, true, true, true, true, true, true, true, true, true, true, true, true, true, true, true, true, true, true, true, true, true, true, true, true, true, true, true, true, true, true, true, true, true, true, true, true, true, true, true, true, true, true, true, true, true, true, false] rfl rfl (any_of HT_.out (by kernel_rfl)) (fun _ _ _ h => h) (Or.inr ⟨by rfl, rfl⟩) ?_ ?_
            rotate_left
            ·simp only [Act.put, nrm]
             rfl
            refine pstep 49 (some 84) #[true, true, true, true, true, true, true, true, true, true, true, true, true, true, true, true, true, true, true, true, true, true, true, true, true, true, true, true, true, true, true, true, true, true, true, true, true, true, true, true, true, true, true, true, true, true, true, true, true, true] HT_.out ?_
            refine done_ (done_of HT_.out (by kernel_rfl)) ?_
            try go_wp2
            go_meet
            case rel => exact ⟨_, (true), (by first | rfl | (simp; done) | (simp [*]; done)), H', ⟨by have := HJ3.out; have := HJ13.out; have := HK3.out; first | omega | exact Nat.le_refl _⟩, ⟨by (with_reducible repeat (first | apply Kd.R_alloc | apply Kd.R_drewN | apply Kd.R_drew)); exact HO_5.out⟩, ⟨by (with_reducible repeat (first | refine blk_drewN ?_ _ | refine blk_drew ?_ | refine blk_alloc ?_ _)); exact BK214.out⟩, ⟨by repeat (first | (with_reducible first | exact HB.out | apply below_alloc | apply pw_below_drewN | apply below_drew1 | refine below_set ?_ GE214.out) | exact HB.out)⟩⟩
          ·rw [if_neg c20] at H
           exact absurd H (by simp)
         ·rw [if_neg c19] at H
          exact absurd H (by simp)
        case rest =>
         clear HC18
         try clear c1
         try clear c2
         try clear p2
         try clear q2
         try clear hx2
         try clear c19
         try clear c20
         try clear c21
         try clear c21b0
         try clear c21b1
         try clear p22
         try clear q22
         try clear hx22
         try clear hx220_0
         try clear hx220_1
         try clear hx220_2
         try clear hx220_3
         try clear hx220_4
         try clear hx221_0
         try clear hx221_1
         try clear hx221_2
         try clear hx221_3
         try clear hx221_4
         try clear p220
         try clear p221
         try clear q220
         try clear q221
         obtain ⟨kq, x84_17, rfl, HA, HJ17, HO_5, BK214, HB⟩ := hcut
         cases kq with
         | zero => exact absurd HA.out (by simp [signalbenchlaw20_ScrambleRoundTrips.j3])
         | succ kj17 =>
          have H := HA.out
          clear HA
          simp only [signalbenchlaw20_ScrambleRoundTrips.j3] at H
          by_cases c30 : x84_17 = true
          ·subst c30
           have H1 : (some false) = some r := by rw [if_pos rfl] at H; exact H
           clear H
           have H := H1
           clear H1
           obtain rfl := Option.some.inj H
           go_wp2
           go_ret
           exact ⟨by first | rfl | (simp [errW_none, errW_some] <;> rfl) | (simp [*, errW_none, errW_some] <;> rfl), by repeat (first | (with_reducible first | exact HB.out | apply below_alloc | apply pw_below_drewN | apply below_drew1 | refine below_set ?_ GE214.out) | exact HB.out)⟩
          ·replace c30 := Bool.eq_false_iff.mpr c30
           subst c30
           have H1 : (if 0 ≤ x9_3 then (if x9_3 < (l1.length : Int) then (if (wrap64 ((x7_3.size : Int) + (((rd_T46 l1 x9_3).f3).size : Int))) > 65536 then ((signalbenchlaw20_awake.f kj17).bind fun t228 => (some t228)) else (if x9_3 < (t215.length : Int) then (if x7_3.size + ((rd_T46 t215 x9_3).f3).size ≤ 9223372036854775807 then (if x8_3.size + ((rd_T46 l1 x9_3).f3).size ≤ 9223372036854775807 then (signalbenchlaw20_ScrambleRoundTrips.l0 kj17 l1 t215 (x7_3 ++ ((rd_T46 t215 x9_3).f3)) (x8_3 ++ ((rd_T46 l1 x9_3).f3)) (wrap64 (x9_3 + 1)) a0_0 a0_1) else (none)) else (none)) else (none))) else (none)) else (none)) = some r := by rw [if_neg (show ¬ (false = true) by decide)] at H; exact H
           clear H
           have H := H1
           clear H1
           by_cases c31 : 0 ≤ x9_3
           ·rw [if_pos c31] at H
            have c31b0 : decide (0 ≤ x9_3) = true := decide_eq_true c31
            clear c31
            by_cases c32 : x9_3 < (l1.length : Int)
            ·rw [if_pos c32] at H
             have c32b0 : decide (x9_3 < (l1.length : Int)) = true := decide_eq_true c32
             clear c32
             by_cases c33 : (wrap64 ((x7_3.size : Int) + (((rd_T46 l1 x9_3).f3).size : Int))) > 65536
             ·rw [if_pos c33] at H
              have c33b0 : decide (65536 < (wrap64 ((x7_3.size : Int) + (((rd_T46 l1 x9_3).f3).size : Int)))) = true := decide_eq_true c33
              clear c33
              replace H := Option.bind_eq_some_iff.mp H
              obtain ⟨t228, A340, H⟩ := H
              replace H : (some t228) = some r := H
              have A34 := Aside0.mk A340
              clear A340
              obtain rfl := Option.some.inj H
              have p227 : 0 ≤ (x9_3 : Int) := of_decide_eq_true (by first | (with_reducible assumption) | assumption)
              have q227 : x9_3 < (l1.length : Int) := of_decide_eq_true (by first | (with_reducible assumption) | assumption)
              obtain ⟨ad227, e227, hx227_0, hx227_1, hx227_2, hx227_3, hx227_4⟩ := at_T46 HR1.out x9_3 p227 q227
              cases e227
              replace hx227_0 := (HB.out.cell (World.block_lt_of_cell? w _ hx227_0)).trans hx227_0
              replace hx227_1 := (HB.out.cell (World.block_lt_of_cell? w _ hx227_1)).trans hx227_1
              replace hx227_2 := (HB.out.cell (World.block_lt_of_cell? w _ hx227_2)).trans hx227_2
              replace hx227_3 := (HB.out.cell (World.block_lt_of_cell? w _ hx227_3)).trans hx227_3
              replace hx227_4 := (HB.out.cell (World.block_lt_of_cell? w _ hx227_4)).trans hx227_4
              replace p227 := eq_true p227
              replace q227 := eq_true q227
              go_wp2_with (first | ((with_reducible refine gate_callee (f := 11) rfl ?_); refine goesL_ (some 95) rfl rfl Try.func11 (by kernel_rfl) rfl #[] rfl (by (try simp only [List.map_toArray, List.map_cons, List.map_nil]); first | done | rfl | (simp only [List.length_drop, List.length_take]; rfl)) ?_; (with_reducible refine (signalbenchlaw20_awake.calls kj17  t228 _ A34.out).mono ?_); rintro e w35 ⟨rfl, hb⟩; refine ⟨_, rfl, ?_⟩; have n0_ := Aside0.mk (Kd.R_below (rkw HO_5.out) hb); have n1_ := Aside0.mk (blkb BK214.out hb); have n2_ := Aside0.mk (below_step (hbw HB.out) hb); clear HO_5; clear BK214; clear HB; have HO_5 := n0_; have BK214 := n1_; have HB := n2_; clear n0_ n1_ n2_; (try clear hb); (try clear hb2); (try clear hk); (try clear hi)))
              go_ret
              exact ⟨by first | rfl | (simp [errW_none, errW_some] <;> rfl) | (simp [*, errW_none, errW_some] <;> rfl), by repeat (first | (with_reducible first | exact HB.out | apply below_alloc | apply pw_below_drewN | apply below_drew1 | refine below_set ?_ GE214.out) | exact HB.out)⟩
             ·rw [if_neg c33] at H
              have c33b0 : decide (65536 < (wrap64 ((x7_3.size : Int) + (((rd_T46 l1 x9_3).f3).size : Int)))) = false := decide_eq_false c33
              clear c33
              by_cases c36 : x9_3 < (t215.length : Int)
              ·rw [if_pos c36] at H
               have c36b0 : decide (x9_3 < (t215.length : Int)) = true := decide_eq_true c36
               clear c36
               by_cases c37 : x7_3.size + ((rd_T46 t215 x9_3).f3).size ≤ 9223372036854775807
               ·rw [if_pos c37] at H
                have c37b0 := eq_true c37
                have c37b1 : decide (x7_3.size + ((rd_T46 t215 x9_3).f3).size ≤ 9223372036854775807) = true := decide_eq_true c37
                try have c37b2 : (9223372036854775807 < x7_3.size + ((rd_T46 t215 x9_3).f3).size) = False := eq_false (Nat.not_lt.2 c37)
                by_cases c38 : x8_3.size + ((rd_T46 l1 x9_3).f3).size ≤ 9223372036854775807
                ·rw [if_pos c38] at H
                 have c38b0 := eq_true c38
                 have c38b1 : decide (x8_3.size + ((rd_T46 l1 x9_3).f3).size ≤ 9223372036854775807) = true := decide_eq_true c38
                 try have c38b2 : (9223372036854775807 < x8_3.size + ((rd_T46 l1 x9_3).f3).size) = False := eq_false (Nat.not_lt.2 c38)
                 have H' := Aside0.mk H
                 clear H
                 have p227 : 0 ≤ (x9_3 : Int) := of_decide_eq_true (by first | (with_reducible assumption) | assumption)
                 have q227 : x9_3 < (l1.length : Int) := of_decide_eq_true (by first | (with_reducible assumption) | assumption)
                 obtain ⟨ad227, e227, hx227_0, hx227_1, hx227_2, hx227_3, hx227_4⟩ := at_T46 HR1.out x9_3 p227 q227
                 cases e227
                 replace hx227_0 := (HB.out.cell (World.block_lt_of_cell? w _ hx227_0)).trans hx227_0
                 replace hx227_1 := (HB.out.cell (World.block_lt_of_cell? w _ hx227_1)).trans hx227_1
                 replace hx227_2 := (HB.out.cell (World.block_lt_of_cell? w _ hx227_2)).trans hx227_2
                 replace hx227_3 := (HB.out.cell (World.block_lt_of_cell? w _ hx227_3)).trans hx227_3
                 replace hx227_4 := (HB.out.cell (World.block_lt_of_cell? w _ hx227_4)).trans hx227_4
                 replace p227 := eq_true p227
                 replace q227 := eq_true q227
                 have p229 : 0 ≤ (x9_3 : Int) := of_decide_eq_true (by first | (with_reducible assumption) | assumption)
                 have q229 : x9_3 < (t215.length : Int) := of_decide_eq_true (by first | (with_reducible assumption) | assumption)
                 obtain ⟨ad229, e229, hx229_0, hx229_1, hx229_2, hx229_3, hx229_4⟩ := at_T46 (Kd.R_reads' HO_5.out).2.2 x9_3 p229 q229
                 cases e229
                 replace p229 := eq_true p229
                 replace q229 := eq_true q229
                 have p230 : 0 ≤ (x9_3 : Int) := of_decide_eq_true (by first | (with_reducible assumption) | assumption)
                 have q230 : x9_3 < (l1.length : Int) := of_decide_eq_true (by first | (with_reducible assumption) | assumption)
                 obtain ⟨ad230, e230, hx230_0, hx230_1, hx230_2, hx230_3, hx230_4⟩ := at_T46 HR1.out x9_3 p230 q230
                 obtain rfl : ad227 = ad230 := (by injection e230)
                 replace hx230_0 := (HB.out.cell (World.block_lt_of_cell? w _ hx230_0)).trans hx230_0
                 replace hx230_1 := (HB.out.cell (World.block_lt_of_cell? w _ hx230_1)).trans hx230_1
                 replace hx230_2 := (HB.out.cell (World.block_lt_of_cell? w _ hx230_2)).trans hx230_2
                 replace hx230_3 := (HB.out.cell (World.block_lt_of_cell? w _ hx230_3)).trans hx230_3
                 replace hx230_4 := (HB.out.cell (World.block_lt_of_cell? w _ hx230_4)).trans hx230_4
                 replace p230 := eq_true p230
                 replace q230 := eq_true q230
                 go_wp2
                 go_roundg kj17
                 case measure => have := HJ3.out; have := HJ13.out; have := HK3.out; have := HJ17.out; omega
                 case rel => exact ⟨(x7_3 ++ ((rd_T46 t215 x9_3).f3)), (x8_3 ++ ((rd_T46 l1 x9_3).f3)), (wrap64 (x9_3 + 1)), (by first | rfl | (simp; done) | (simp [*]; done)), (by first | rfl | (simp; done) | (simp [*]; done)), (by first | rfl | (simp; done) | (simp [*]; done)), H', ⟨by have := HJ3.out; have := HJ13.out; have := HK3.out; have := HJ17.out; omega⟩, ⟨by (with_reducible repeat (first | apply Kd.R_alloc | apply Kd.R_drewN | apply Kd.R_drew)); exact HO_5.out⟩, ⟨by (with_reducible repeat (first | refine blk_drewN ?_ _ | refine blk_drew ?_ | refine blk_alloc ?_ _)); exact BK214.out⟩, ⟨by repeat (first | (with_reducible first | exact HB.out | apply below_alloc | apply pw_below_drewN | apply below_drew1 | refine below_set ?_ GE214.out) | exact HB.out)⟩⟩
                ·rw [if_neg c38] at H
                 exact absurd H (by simp)
               ·rw [if_neg c37] at H
                exact absurd H (by simp)
              ·rw [if_neg c36] at H
               exact absurd H (by simp)
            ·rw [if_neg c32] at H
             exact absurd H (by simp)
           ·rw [if_neg c31] at H
            exact absurd H (by simp)
       ·rw [if_neg c17] at H
        have c17b0 : decide (x9_3 < (l1.length : Int)) = false := decide_eq_false c17
        clear c17
        replace H := Option.bind_eq_some_iff.mp H
        obtain ⟨t231, A390, H⟩ := H
        replace H : ((scramble_Decode.f k3 a0_0 a0_1 t231).bind fun t234 => ((signalbenchlaw20_bits.f k3 x8_3).bind fun t237 => ((signalbenchref07_Same.f k3 t234 t237).bind fun t240 => (if t240 = true then ((signalbenchlaw20_awake.f k3).bind fun t241 => (some t241)) else (some false))))) = some r := H
        have A39 := Aside0.mk A390
        clear A390
        replace H := Option.bind_eq_some_iff.mp H
        obtain ⟨t234, A400, H⟩ := H
        replace H : ((signalbenchlaw20_bits.f k3 x8_3).bind fun t237 => ((signalbenchref07_Same.f k3 t234 t237).bind fun t240 => (if t240 = true then ((signalbenchlaw20_awake.f k3).bind fun t241 => (some t241)) else (some false)))) = some r := H
        have A40 := Aside0.mk A400
        clear A400
        replace H := Option.bind_eq_some_iff.mp H
        obtain ⟨t237, A410, H⟩ := H
        replace H : ((signalbenchref07_Same.f k3 t234 t237).bind fun t240 => (if t240 = true then ((signalbenchlaw20_awake.f k3).bind fun t241 => (some t241)) else (some false))) = some r := H
        have A41 := Aside0.mk A410
        clear A410
        replace H := Option.bind_eq_some_iff.mp H
        obtain ⟨t240, A420, H⟩ := H
        replace H : (if t240 = true then ((signalbenchlaw20_awake.f k3).bind fun t241 => (some t241)) else (some false)) = some r := H
        have A42 := Aside0.mk A420
        clear A420
        by_cases c43 : t240 = true
        ·subst c43
         have H1 : ((signalbenchlaw20_awake.f k3).bind fun t241 => (some t241)) = some r := by rw [if_pos rfl] at H; exact H
         clear H
         have H := H1
         clear H1
         replace H := Option.bind_eq_some_iff.mp H
         obtain ⟨t241, A440, H⟩ := H
         replace H : (some t241) = some r := H
         have A44 := Aside0.mk A440
         clear A440
         obtain rfl := Option.some.inj H
         try go_wp2
         have n0_ := Aside0.mk (Kd.R_drew HO_5.out)
         have n1_ := Aside0.mk (blk_drew BK214.out)
         have n2_ := Aside0.mk (below_drew1 HB.out)
         clear HO_5
         clear BK214
         clear HB
         have HO_5 := n0_
         have BK214 := n1_
         have HB := n2_
         clear n0_ n1_ n2_
         refine start_ (n := 11) (S := fun w' => w'.cell? ⟨gb214, 0, none⟩ = some (.int .i64 a0_0) ∧ w'.cell? ⟨gb214, 1, none⟩ = some (.int .i64 a0_1)) (ds := []) #[false, false, false, false, false, false, false, false, false, false, false] (by kernel_rfl) rfl rfl ⟨(blk_cell BK214.out 0).trans rfl, (blk_cell BK214.out 1).trans rfl⟩ (fun hHeld => ?_); refine with_tabW signalbenchlaw20_ScrambleRoundTrips.tab17 signalbenchlaw20_ScrambleRoundTrips.bits17 (fun HT_ HW_ => ?_)
         generalize wr.drew = w45 at HO_5 BK214 HB hHeld ⊢
         refine pstep 1 (some 111) #[false, true, false, false, false, false, false, false, false, false, false] HT_.out ?_
         refine pstep 4 (some 114) #[false, true, false, false, true, false, false, false, false, false, false] HT_.out ?_
         refine take_ (i := 0) (N := some 110) (v := ?_) (a' := ?_) #[true, true, false, false, true, false, false, false, false, false, false] rfl rfl (take_ofW HT_.out HW_.out (by kernel_rfl)) (fun _ _ _ h => h) (Or.inl ⟨by rfl, ?_⟩) hHeld ?_ ?_
         rotate_left
         ·rintro w' ⟨s0, s1⟩
          go_simp
          with_reducible rfl
         rotate_left
         ·simp only [Act.put, nrm]
          rfl
         refine one_ (i := 2) (N := some 112) #[true, true, true, false, true, false, false, false, false, false, false] rfl rfl (one_of HT_.out (by kernel_rfl)) (by decide) (fun K hK => ?_)
         refine goes_ Try.func23 (by kernel_rfl) rfl #[.string x7_3] (by rfl) rfl rfl (by (try simp only [List.map_toArray, List.map_cons, List.map_nil]); first | done | rfl | (simp only [List.length_drop, List.length_take]; rfl)) ?_
         with_reducible refine (signalbenchlaw20_bits.calls k3 x7_3 t231 _ A39.out).mono ?_
         rintro e w46 ⟨v232, rfl, ho0, hb⟩
         refine ⟨_, rfl, ?_⟩
         have n0_ := Aside0.mk (Kd.R_below (rkw HO_5.out) hb)
         have n1_ := Aside0.mk (Kd.R_lower ho0 (below_size (hbw HB.out)))
         have n2_ := Aside0.mk (blkb BK214.out hb)
         have n3_ := Aside0.mk (below_step (hbw HB.out) hb)
         clear HO_5
         clear BK214
         clear HB
         have HO_5 := n0_
         have HO233 := n1_
         have BK214 := n2_
         have HB := n3_
         clear n0_ n1_ n2_ n3_
         (try clear hb)
         (try clear hb2)
         (try clear hk)
         (try clear hi)
         (try clear ho0)
         obtain ⟨Ao47, co47, eo47⟩ := Kd.R_slice HO233.out
         (first | subst eo47 | (injection eo47 with f1_ f2_ f3_; have f4_ := f1_.symm; have f5_ := f3_.symm; clear f1_ f2_ f3_; subst f4_; subst f5_))
         refine hK.out _ _ ⟨(blk_cell BK214.out 0).trans rfl, (blk_cell BK214.out 1).trans rfl⟩ (fun hHeld => ?_)
         clear hK K
         refine norm_ (a' := ?_) ?_ ?_
         rotate_left
         ·show Act.put _ (some 112) _ = _
          simp only [Act.put, nrm]
          rfl
         refine one_ (i := 3) (N := some 113) #[true, true, true, true, true, false, false, false, false, false, false] rfl rfl (one_of HT_.out (by kernel_rfl)) (by decide) (fun K hK => ?_)
         refine goes_ Try.func16 (by kernel_rfl) rfl #[.agg #[.int .i64 a0_0, .int .i64 a0_1], .slice Ao47 t231.length co47] (by rfl) rfl rfl (by (try simp only [List.map_toArray, List.map_cons, List.map_nil]); first | done | rfl | (simp only [List.length_drop, List.length_take]; rfl)) ?_
         with_reducible refine (scramble_Decode.calls k3 a0_0 a0_1 _ _ t231 t234 _ ?side1 ?side2 A40.out).mono ?_
         (case side1 => repeat (first | exact (Kd.R_reads' HO233.out).2.2 | (with_reducible refine Kd.C_alloc ?_ _) | (with_reducible refine Kd.C_drewN ?_ _) | (with_reducible refine Kd.C_drew ?_)))
         (case side2 => exact (Kd.R_reads' HO233.out).2.1)
         rintro e w48 ⟨v235, rfl, ho0, hb⟩
         refine ⟨_, rfl, ?_⟩
         have n0_ := Aside0.mk (Kd.R_below (rkw HO_5.out) hb)
         have n1_ := Aside0.mk (Kd.R_elder' (rkw HO233.out) (Kd.R_base ho0) hb)
         have n2_ := Aside0.mk (Kd.R_lower (Kd.R_new' ho0 (Kd.R_lt (rkw HO233.out))) (below_size (hbw HB.out)))
         have n3_ := Aside0.mk (blkb BK214.out hb)
         have n4_ := Aside0.mk (below_step (hbw HB.out) hb)
         clear HO_5
         clear HO233
         clear BK214
         clear HB
         have HO_5 := n0_
         have HO233 := n1_
         have HO236 := n2_
         have BK214 := n3_
         have HB := n4_
         clear n0_ n1_ n2_ n3_ n4_
         (try clear hb)
         (try clear hb2)
         (try clear hk)
         (try clear hi)
         (try clear ho0)
         refine hK.out _ _ ⟨(blk_cell BK214.out 0).trans rfl, (blk_cell BK214.out 1).trans rfl⟩ (fun hHeld => ?_)
         clear hK K
         refine norm_ (a' := ?_) ?_ ?_
         rotate_left
         ·show Act.put _ (some 113) _ = _
          simp only [Act.put, nrm]
          rfl
         refine one_ (i := 5) (N := some 115) #[true, true, true, true, true, true, false, false, false, false, false] rfl rfl (one_of HT_.out (by kernel_rfl)) (by decide) (fun K hK => ?_)
         refine goes_ Try.func23 (by kernel_rfl) rfl #[.string x8_3] (by rfl) rfl rfl (by (try simp only [List.map_toArray, List.map_cons, List.map_nil]); first | done | rfl | (simp only [List.length_drop, List.length_take]; rfl)) ?_
         with_reducible refine (signalbenchlaw20_bits.calls k3 x8_3 t237 _ A41.out).mono ?_
         rintro e w49 ⟨v238, rfl, ho0, hb⟩
         refine ⟨_, rfl, ?_⟩
         have n0_ := Aside0.mk (Kd.R_below (rkw HO_5.out) hb)
         have n1_ := Aside0.mk (Kd.R_elder' (rkw HO233.out) (Kd.R_base ho0) hb)
         have n2_ := Aside0.mk (Kd.R_elder' (rkw HO236.out) (Kd.R_base ho0) hb)
         have n3_ := Aside0.mk (Kd.R_lower (Kd.R_new' (Kd.R_new' ho0 (Kd.R_lt (rkw HO233.out))) (Kd.R_lt (rkw HO236.out))) (below_size (hbw HB.out)))
         have n4_ := Aside0.mk (blkb BK214.out hb)
         have n5_ := Aside0.mk (below_step (hbw HB.out) hb)
         clear HO_5
         clear HO233
         clear HO236
         clear BK214
         clear HB
         have HO_5 := n0_
         have HO233 := n1_
         have HO236 := n2_
         have HO239 := n3_
         have BK214 := n4_
         have HB := n5_
         clear n0_ n1_ n2_ n3_ n4_ n5_
         (try clear hb)
         (try clear hb2)
         (try clear hk)
         (try clear hi)
         (try clear ho0)
         obtain ⟨Ao50, co50, eo50⟩ := Kd.R_slice HO236.out
         (first | subst eo50 | (injection eo50 with f1_ f2_ f3_; have f4_ := f1_.symm; have f5_ := f3_.symm; clear f1_ f2_ f3_; subst f4_; subst f5_))
         obtain ⟨Ao51, co51, eo51⟩ := Kd.R_slice HO239.out
         (first | subst eo51 | (injection eo51 with f1_ f2_ f3_; have f4_ := f1_.symm; have f5_ := f3_.symm; clear f1_ f2_ f3_; subst f4_; subst f5_))
         refine hK.out _ _ ⟨(blk_cell BK214.out 0).trans rfl, (blk_cell BK214.out 1).trans rfl⟩ (fun hHeld => ?_)
         clear hK K
         refine norm_ (a' := ?_) ?_ ?_
         rotate_left
         ·show Act.put _ (some 115) _ = _
          simp only [Act.put, nrm]
          rfl
         refine one_ (i := 6) (N := some 116) #[true, true, true, true, true, true, true, false, false, false, false] rfl rfl (one_of HT_.out (by kernel_rfl)) (by decide) (fun K hK => ?_)
         refine goes_ Try.func19 (by kernel_rfl) rfl #[.slice Ao50 t234.length co50, .slice Ao51 t237.length co51] (by rfl) rfl rfl (by (try simp only [List.map_toArray, List.map_cons, List.map_nil]); first | done | rfl | (simp only [List.length_drop, List.length_take]; rfl)) ?_
         with_reducible refine (signalbenchref07_Same.calls k3 _ _ t234 _ _ t237 true _ ?side1 ?side2 ?side3 ?side4 A42.out).mono ?_
         (case side1 => repeat (first | exact (Kd.R_reads' HO236.out).2.2 | (with_reducible refine Kd.C_alloc ?_ _) | (with_reducible refine Kd.C_drewN ?_ _) | (with_reducible refine Kd.C_drew ?_)))
         (case side2 => exact (Kd.R_reads' HO236.out).2.1)
         (case side3 => repeat (first | exact (Kd.R_reads' HO239.out).2.2 | (with_reducible refine Kd.C_alloc ?_ _) | (with_reducible refine Kd.C_drewN ?_ _) | (with_reducible refine Kd.C_drew ?_)))
         (case side4 => exact (Kd.R_reads' HO239.out).2.1)
         rintro e w' ⟨rfl, ⟨nd, rfl⟩⟩
         refine ⟨_, rfl, ?_⟩
         refine hK.out _ _ ⟨(blk_cell BK214.out 0).trans rfl, (blk_cell BK214.out 1).trans rfl⟩ (fun hHeld => ?_)
         clear hK K
         refine norm_ (a' := ?_) ?_ ?_
         rotate_left
         ·show Act.put _ (some 116) _ = _
          simp only [Act.put, nrm]
          rfl
         refine pstep 7 (some 117) #[true, true, true, true, true, true, true, true, false, false, false] HT_.out ?_
         refine one_ (i := 8) (N := some 118) #[true, true, true, true, true, true, true, true, true, false, false] rfl rfl (one_of HT_.out (by kernel_rfl)) (by decide) (fun K hK => ?_)
         refine goes_ Try.func11 (by kernel_rfl) rfl #[] (by rfl) rfl rfl (by (try simp only [List.map_toArray, List.map_cons, List.map_nil]); first | done | rfl | (simp only [List.length_drop, List.length_take]; rfl)) ?_
         with_reducible refine (signalbenchlaw20_awake.calls k3  t241 _ A44.out).mono ?_
         rintro e w52 ⟨rfl, hb⟩
         refine ⟨_, rfl, ?_⟩
         have n0_ := Aside0.mk (Kd.R_below (rkw HO_5.out) hb)
         have n1_ := Aside0.mk (Kd.R_below (rkw HO233.out) hb)
         have n2_ := Aside0.mk (Kd.R_below (rkw HO236.out) hb)
         have n3_ := Aside0.mk (Kd.R_below (rkw HO239.out) hb)
         have n4_ := Aside0.mk (blkb BK214.out hb)
         have n5_ := Aside0.mk (below_step (hbw HB.out) hb)
         clear HO_5
         clear HO233
         clear HO236
         clear HO239
         clear BK214
         clear HB
         have HO_5 := n0_
         have HO233 := n1_
         have HO236 := n2_
         have HO239 := n3_
         have BK214 := n4_
         have HB := n5_
         clear n0_ n1_ n2_ n3_ n4_ n5_
         (try clear hb)
         (try clear hb2)
         (try clear hk)
         (try clear hi)
         refine hK.out _ _ ⟨(blk_cell BK214.out 0).trans rfl, (blk_cell BK214.out 1).trans rfl⟩ (fun hHeld => ?_)
         clear hK K
         refine norm_ (a' := ?_) ?_ ?_
         rotate_left
         ·show Act.put _ (some 118) _ = _
          simp only [Act.put, nrm]
          rfl
         refine pstep 9 (some 119) #[true, true, true, true, true, true, true, true, true, true, false] HT_.out ?_
         refine pstep 10 (some 4) #[true, true, true, true, true, true, true, true, true, true, true] HT_.out ?_
         refine done_ (done_of HT_.out (by kernel_rfl)) ?_
         try go_wp2
         go_ret
         exact ⟨by first | rfl | (simp [errW_none, errW_some] <;> rfl) | (simp [*, errW_none, errW_some] <;> rfl), by repeat (first | (with_reducible first | exact HB.out | apply below_alloc | apply pw_below_drewN | apply below_drew1 | refine below_set ?_ GE214.out) | exact HB.out)⟩
        ·replace c43 := Bool.eq_false_iff.mpr c43
         subst c43
         have H1 : (some false) = some r := by rw [if_neg (show ¬ (false = true) by decide)] at H; exact H
         clear H
         have H := H1
         clear H1
         obtain rfl := Option.some.inj H
         try go_wp2
         have n0_ := Aside0.mk (Kd.R_drew HO_5.out)
         have n1_ := Aside0.mk (blk_drew BK214.out)
         have n2_ := Aside0.mk (below_drew1 HB.out)
         clear HO_5
         clear BK214
         clear HB
         have HO_5 := n0_
         have BK214 := n1_
         have HB := n2_
         clear n0_ n1_ n2_
         refine start_ (n := 11) (S := fun w' => w'.cell? ⟨gb214, 0, none⟩ = some (.int .i64 a0_0) ∧ w'.cell? ⟨gb214, 1, none⟩ = some (.int .i64 a0_1)) (ds := []) #[false, false, false, false, false, false, false, false, false, false, false] (by kernel_rfl) rfl rfl ⟨(blk_cell BK214.out 0).trans rfl, (blk_cell BK214.out 1).trans rfl⟩ (fun hHeld => ?_); refine with_tabW signalbenchlaw20_ScrambleRoundTrips.tab17 signalbenchlaw20_ScrambleRoundTrips.bits17 (fun HT_ HW_ => ?_)
         generalize wr.drew = w53 at HO_5 BK214 HB hHeld ⊢
         refine pstep 1 (some 111) #[false, true, false, false, false, false, false, false, false, false, false] HT_.out ?_
         refine pstep 4 (some 114) #[false, true, false, false, true, false, false, false, false, false, false] HT_.out ?_
         refine take_ (i := 0) (N := some 110) (v := ?_) (a' := ?_) #[true, true, false, false, true, false, false, false, false, false, false] rfl rfl (take_ofW HT_.out HW_.out (by kernel_rfl)) (fun _ _ _ h => h) (Or.inl ⟨by rfl, ?_⟩) hHeld ?_ ?_
         rotate_left
         ·rintro w' ⟨s0, s1⟩
          go_simp
          with_reducible rfl
         rotate_left
         ·simp only [Act.put, nrm]
          rfl
         refine one_ (i := 2) (N := some 112) #[true, true, true, false, true, false, false, false, false, false, false] rfl rfl (one_of HT_.out (by kernel_rfl)) (by decide) (fun K hK => ?_)
         refine goes_ Try.func23 (by kernel_rfl) rfl #[.string x7_3] (by rfl) rfl rfl (by (try simp only [List.map_toArray, List.map_cons, List.map_nil]); first | done | rfl | (simp only [List.length_drop, List.length_take]; rfl)) ?_
         with_reducible refine (signalbenchlaw20_bits.calls k3 x7_3 t231 _ A39.out).mono ?_
         rintro e w54 ⟨v232, rfl, ho0, hb⟩
         refine ⟨_, rfl, ?_⟩
         have n0_ := Aside0.mk (Kd.R_below (rkw HO_5.out) hb)
         have n1_ := Aside0.mk (Kd.R_lower ho0 (below_size (hbw HB.out)))
         have n2_ := Aside0.mk (blkb BK214.out hb)
         have n3_ := Aside0.mk (below_step (hbw HB.out) hb)
         clear HO_5
         clear BK214
         clear HB
         have HO_5 := n0_
         have HO233 := n1_
         have BK214 := n2_
         have HB := n3_
         clear n0_ n1_ n2_ n3_
         (try clear hb)
         (try clear hb2)
         (try clear hk)
         (try clear hi)
         (try clear ho0)
         obtain ⟨Ao55, co55, eo55⟩ := Kd.R_slice HO233.out
         (first | subst eo55 | (injection eo55 with f1_ f2_ f3_; have f4_ := f1_.symm; have f5_ := f3_.symm; clear f1_ f2_ f3_; subst f4_; subst f5_))
         refine hK.out _ _ ⟨(blk_cell BK214.out 0).trans rfl, (blk_cell BK214.out 1).trans rfl⟩ (fun hHeld => ?_)
         clear hK K
         refine norm_ (a' := ?_) ?_ ?_
         rotate_left
         ·show Act.put _ (some 112) _ = _
          simp only [Act.put, nrm]
          rfl
         refine one_ (i := 3) (N := some 113) #[true, true, true, true, true, false, false, false, false, false, false] rfl rfl (one_of HT_.out (by kernel_rfl)) (by decide) (fun K hK => ?_)
         refine goes_ Try.func16 (by kernel_rfl) rfl #[.agg #[.int .i64 a0_0, .int .i64 a0_1], .slice Ao55 t231.length co55] (by rfl) rfl rfl (by (try simp only [List.map_toArray, List.map_cons, List.map_nil]); first | done | rfl | (simp only [List.length_drop, List.length_take]; rfl)) ?_
         with_reducible refine (scramble_Decode.calls k3 a0_0 a0_1 _ _ t231 t234 _ ?side1 ?side2 A40.out).mono ?_
         (case side1 => repeat (first | exact (Kd.R_reads' HO233.out).2.2 | (with_reducible refine Kd.C_alloc ?_ _) | (with_reducible refine Kd.C_drewN ?_ _) | (with_reducible refine Kd.C_drew ?_)))
         (case side2 => exact (Kd.R_reads' HO233.out).2.1)
         rintro e w56 ⟨v235, rfl, ho0, hb⟩
         refine ⟨_, rfl, ?_⟩
         have n0_ := Aside0.mk (Kd.R_below (rkw HO_5.out) hb)
         have n1_ := Aside0.mk (Kd.R_elder' (rkw HO233.out) (Kd.R_base ho0) hb)
         have n2_ := Aside0.mk (Kd.R_lower (Kd.R_new' ho0 (Kd.R_lt (rkw HO233.out))) (below_size (hbw HB.out)))
         have n3_ := Aside0.mk (blkb BK214.out hb)
         have n4_ := Aside0.mk (below_step (hbw HB.out) hb)
         clear HO_5
         clear HO233
         clear BK214
         clear HB
         have HO_5 := n0_
         have HO233 := n1_
         have HO236 := n2_
         have BK214 := n3_
         have HB := n4_
         clear n0_ n1_ n2_ n3_ n4_
         (try clear hb)
         (try clear hb2)
         (try clear hk)
         (try clear hi)
         (try clear ho0)
         refine hK.out _ _ ⟨(blk_cell BK214.out 0).trans rfl, (blk_cell BK214.out 1).trans rfl⟩ (fun hHeld => ?_)
         clear hK K
         refine norm_ (a' := ?_) ?_ ?_
         rotate_left
         ·show Act.put _ (some 113) _ = _
          simp only [Act.put, nrm]
          rfl
         refine one_ (i := 5) (N := some 115) #[true, true, true, true, true, true, false, false, false, false, false] rfl rfl (one_of HT_.out (by kernel_rfl)) (by decide) (fun K hK => ?_)
         refine goes_ Try.func23 (by kernel_rfl) rfl #[.string x8_3] (by rfl) rfl rfl (by (try simp only [List.map_toArray, List.map_cons, List.map_nil]); first | done | rfl | (simp only [List.length_drop, List.length_take]; rfl)) ?_
         with_reducible refine (signalbenchlaw20_bits.calls k3 x8_3 t237 _ A41.out).mono ?_
         rintro e w57 ⟨v238, rfl, ho0, hb⟩
         refine ⟨_, rfl, ?_⟩
         have n0_ := Aside0.mk (Kd.R_below (rkw HO_5.out) hb)
         have n1_ := Aside0.mk (Kd.R_elder' (rkw HO233.out) (Kd.R_base ho0) hb)
         have n2_ := Aside0.mk (Kd.R_elder' (rkw HO236.out) (Kd.R_base ho0) hb)
         have n3_ := Aside0.mk (Kd.R_lower (Kd.R_new' (Kd.R_new' ho0 (Kd.R_lt (rkw HO233.out))) (Kd.R_lt (rkw HO236.out))) (below_size (hbw HB.out)))
         have n4_ := Aside0.mk (blkb BK214.out hb)
         have n5_ := Aside0.mk (below_step (hbw HB.out) hb)
         clear HO_5
         clear HO233
         clear HO236
         clear BK214
         clear HB
         have HO_5 := n0_
         have HO233 := n1_
         have HO236 := n2_
         have HO239 := n3_
         have BK214 := n4_
         have HB := n5_
         clear n0_ n1_ n2_ n3_ n4_ n5_
         (try clear hb)
         (try clear hb2)
         (try clear hk)
         (try clear hi)
         (try clear ho0)
         obtain ⟨Ao58, co58, eo58⟩ := Kd.R_slice HO236.out
         (first | subst eo58 | (injection eo58 with f1_ f2_ f3_; have f4_ := f1_.symm; have f5_ := f3_.symm; clear f1_ f2_ f3_; subst f4_; subst f5_))
         obtain ⟨Ao59, co59, eo59⟩ := Kd.R_slice HO239.out
         (first | subst eo59 | (injection eo59 with f1_ f2_ f3_; have f4_ := f1_.symm; have f5_ := f3_.symm; clear f1_ f2_ f3_; subst f4_; subst f5_))
         refine hK.out _ _ ⟨(blk_cell BK214.out 0).trans rfl, (blk_cell BK214.out 1).trans rfl⟩ (fun hHeld => ?_)
         clear hK K
         refine norm_ (a' := ?_) ?_ ?_
         rotate_left
         ·show Act.put _ (some 115) _ = _
          simp only [Act.put, nrm]
          rfl
         refine one_ (i := 6) (N := some 116) #[true, true, true, true, true, true, true, false, false, false, false] rfl rfl (one_of HT_.out (by kernel_rfl)) (by decide) (fun K hK => ?_)
         refine goes_ Try.func19 (by kernel_rfl) rfl #[.slice Ao58 t234.length co58, .slice Ao59 t237.length co59] (by rfl) rfl rfl (by (try simp only [List.map_toArray, List.map_cons, List.map_nil]); first | done | rfl | (simp only [List.length_drop, List.length_take]; rfl)) ?_
         with_reducible refine (signalbenchref07_Same.calls k3 _ _ t234 _ _ t237 false _ ?side1 ?side2 ?side3 ?side4 A42.out).mono ?_
         (case side1 => repeat (first | exact (Kd.R_reads' HO236.out).2.2 | (with_reducible refine Kd.C_alloc ?_ _) | (with_reducible refine Kd.C_drewN ?_ _) | (with_reducible refine Kd.C_drew ?_)))
         (case side2 => exact (Kd.R_reads' HO236.out).2.1)
         (case side3 => repeat (first | exact (Kd.R_reads' HO239.out).2.2 | (with_reducible refine Kd.C_alloc ?_ _) | (with_reducible refine Kd.C_drewN ?_ _) | (with_reducible refine Kd.C_drew ?_)))
         (case side4 => exact (Kd.R_reads' HO239.out).2.1)
         rintro e w' ⟨rfl, ⟨nd, rfl⟩⟩
         refine ⟨_, rfl, ?_⟩
         refine hK.out _ _ ⟨(blk_cell BK214.out 0).trans rfl, (blk_cell BK214.out 1).trans rfl⟩ (fun hHeld => ?_)
         clear hK K
         refine norm_ (a' := ?_) ?_ ?_
         rotate_left
         ·show Act.put _ (some 116) _ = _
          simp only [Act.put, nrm]
          rfl
         refine pstep 7 (some 117) #[true, true, true, true, true, true, true, true, false, false, false] HT_.out ?_
         refine pure_ (i := 8) (N := some 118) (v := undef) (a' := ?_) #[true, true, true, true, true, true, true, true, true, false, false] rfl rfl (any_of HT_.out (by kernel_rfl)) (fun _ _ _ h => h) (Or.inr ⟨by rfl, rfl⟩) ?_ ?_
         rotate_left
         ·simp only [Act.put, nrm]
          rfl
         refine pstep 9 (some 119) #[true, true, true, true, true, true, true, true, true, true, false] HT_.out ?_
         refine pstep 10 (some 4) #[true, true, true, true, true, true, true, true, true, true, true] HT_.out ?_
         refine done_ (done_of HT_.out (by kernel_rfl)) ?_
         try go_wp2
         go_ret
         exact ⟨by first | rfl | (simp [errW_none, errW_some] <;> rfl) | (simp [*, errW_none, errW_some] <;> rfl), by repeat (first | (with_reducible first | exact HB.out | apply below_alloc | apply pw_below_drewN | apply below_drew1 | refine below_set ?_ GE214.out) | exact HB.out)⟩

/-- THE ONE PURE STATEMENT of signalbenchlaw20_ScrambleRoundTrips: yours. -/
def signalbenchlaw20_ScrambleRoundTrips.Pure : Prop := ∀ (a0_0 : Int) (a0_1 : Int) (l1 : List (S46)), (Lit.int .i64 a0_0).wf = true → (Lit.int .i64 a0_1).wf = true → l1.length ≤ maxLen → l1.length * 48 ≤ 140737488351232 → (∀ x ∈ l1, (Lit.int .i64 x.f0).wf = true ∧ (Lit.int .i64 x.f1).wf = true ∧ (Lit.int .i64 x.f2).wf = true ∧ x.f3.size ≤ 140737488351232 ∧ (Lit.int .i64 x.f4).wf = true) → ∃ k, signalbenchlaw20_ScrambleRoundTrips.f k a0_0 a0_1 l1 = some true
theorem signalbenchlaw20_ScrambleRoundTrips.walk (P : signalbenchlaw20_ScrambleRoundTrips.Pure) (a0_0 : Int) (a0_1 : Int) (A1 : Option Addr) (c1 : Nat) (l1 : List (S46)) (w : World) (hr1 : Kd.C k46 w A1 l1.length l1) (hc1 : l1.length ≤ c1) (w0_ : (Lit.int .i64 a0_0).wf = true) (w1_ : (Lit.int .i64 a0_1).wf = true) (w2_ : l1.length ≤ maxLen) (w3_ : l1.length * 48 ≤ 140737488351232) (w4_ : (∀ x ∈ l1, (Lit.int .i64 x.f0).wf = true ∧ (Lit.int .i64 x.f1).wf = true ∧ (Lit.int .i64 x.f2).wf = true ∧ x.f3.size ≤ 140737488351232 ∧ (Lit.int .i64 x.f4).wf = true)) :
  Calls Try.prog 6 #[.agg #[.int .i64 a0_0, .int .i64 a0_1], .slice A1 l1.length c1] w fun e w' => e = .returned (.bool true) ∧ Below w.heap.size w w' := by
 obtain ⟨k, h⟩ := P a0_0 a0_1 l1 w0_ w1_ w2_ w3_ w4_
 refine (signalbenchlaw20_ScrambleRoundTrips.calls k a0_0 a0_1 A1 c1 l1 true w hr1 hc1 h).mono ?_
 rintro e w' ⟨rfl, hd⟩
 exact ⟨rfl, hd⟩

end Go.Proofs.Ytgcifmaefoeobaa.PScrambleRoundTrips
