-- Written by a program of this session (wip/tools/pr.py), which calls the kit's print with changes of its own.
import Derived.Test.YtgcifmaefoeobaaPScrambleDecodesx0
import Derived.Test.YtgcifmaefoeobaaPScrambleDecodesx6
import Derived.Test.YtgcifmaefoeobaaPScrambleDecodesx7
import Derived.Test.YtgcifmaefoeobaaPScrambleDecodesx8
import Derived.Test.YtgcifmaefoeobaaPScrambleDecodesx9
import Derived.Test.YtgcifmaefoeobaaPScrambleDecodesx10
namespace Go.Proofs.Ytgcifmaefoeobaa.PScrambleDecodes
open Go.RowKit Go.Proofs.YtgcifmaefoeobaaW.PrintWords Go.Proofs.YtgcifmaefoeobaaW.PrintLast Go.Proofs.YtgcifmaefoeobaaW.PrintMore
attribute [local go_sem] max2_int min2_int max_two min_two max_three min_three max_four min_four   -- for this text's walks alone
set_option linter.unusedVariables false
set_option linter.unusedSimpArgs false

/-! ### signalbenchlaw20_ScrambleDecodes: function 4 -/
mutual
def signalbenchlaw20_ScrambleDecodes.j0 : Nat → List (S27) → Int → Int → Option (Bool)
 | 0, _, _, _ => none
 | k + 1, x1, x266000, x266001 => (scramble_Start.f x266000 x266001).bind fun bt267 => ((signalbenchref20_Start.f x266000 x266001).bind fun bt276 => (signalbenchlaw20_ScrambleDecodes.l0 k x1 0 x266000 x266001 bt267.1 bt267.2.1 bt267.2.2.1 bt267.2.2.2.1 bt267.2.2.2.2.1 bt267.2.2.2.2.2.1 bt267.2.2.2.2.2.2.1 bt267.2.2.2.2.2.2.2 bt276.1 bt276.2.1 bt276.2.2.1 bt276.2.2.2.1 bt276.2.2.2.2.1 bt276.2.2.2.2.2.1 bt276.2.2.2.2.2.2.1 bt276.2.2.2.2.2.2.2))
def signalbenchlaw20_ScrambleDecodes.l0 : Nat → List (S27) → Int → Int → Int → Int → Int → Int → Int → Int → Int → Int → ByteArray → Int → Int → Int → Int → Int → Int → Int → ByteArray → Option (Bool)
 | 0, _, _, _, _, _, _, _, _, _, _, _, _, _, _, _, _, _, _, _, _ => none
 | k + 1, x1, x7, x266000, x266001, x276000, x276001, x276002, x276003, x276004, x276005, x276006, x276007, x285000, x285001, x285002, x285003, x285004, x285005, x285006, x285007 => if x7 < (x1.length : Int) then (if 0 ≤ x7 then ((scramble_Step.f k x266000 x266001 x276000 x276001 x276002 x276003 x276004 x276005 x276006 x276007 ((rd_T27 x1 x7).f0) ((rd_T27 x1 x7).f1) ((rd_T27 x1 x7).f2) ((rd_T27 x1 x7).f3) ((rd_T27 x1 x7).f4) ((rd_T27 x1 x7).f5) ((rd_T27 x1 x7).f6)).bind fun bt286 => ((signalbenchref20_Step.f k x266000 x266001 x285000 x285001 x285002 x285003 x285004 x285005 x285006 x285007 ((rd_T27 x1 x7).f0) ((rd_T27 x1 x7).f1) ((rd_T27 x1 x7).f2) ((rd_T27 x1 x7).f3) ((rd_T27 x1 x7).f4) ((rd_T27 x1 x7).f5) ((rd_T27 x1 x7).f6)).bind fun bt299 => ((signalbenchref07_Same.f k bt286.2.2.2.2.2.2.2.2 bt299.2.2.2.2.2.2.2.2).bind fun t311 => (if t311 = true then (signalbenchlaw20_ScrambleDecodes.l0 k x1 (wrap64 (x7 + 1)) x266000 x266001 bt286.1 bt286.2.1 bt286.2.2.1 bt286.2.2.2.1 bt286.2.2.2.2.1 bt286.2.2.2.2.2.1 bt286.2.2.2.2.2.2.1 bt286.2.2.2.2.2.2.2.1 bt299.1 bt299.2.1 bt299.2.2.1 bt299.2.2.2.1 bt299.2.2.2.2.1 bt299.2.2.2.2.2.1 bt299.2.2.2.2.2.2.1 bt299.2.2.2.2.2.2.2.1) else (some false))))) else (none)) else ((scramble_End.f x266000 x266001 x276000 x276001 x276002 x276003 x276004 x276005 x276006 x276007).bind fun t312 => (if (t312.length : Int) = 0 then ((scramble_Decode.f k x266000 x266001 x1).bind fun t315 => ((signalbenchref20_Decode.f k x266000 x266001 x1).bind fun t318 => ((signalbenchref07_Same.f k t315 t318).bind fun t321 => (if t321 = true then ((signalbenchlaw20_awake.f k).bind fun t322 => (some t322)) else (some false))))) else (some false)))
end
def signalbenchlaw20_ScrambleDecodes.f (k : Nat) (a0_0 : Int) (a0_1 : Int) (l1 : List (S27)) : Option (Bool) := if (l1.length : Int) > 2000 then ((signalbenchlaw20_awake.f k).bind fun t266 => (some t266)) else (signalbenchlaw20_ScrambleDecodes.j0 k l1 a0_0 a0_1)
theorem signalbenchlaw20_ScrambleDecodes.mono_l : ∀ k, (∀ y0 y1 y2, LeO (signalbenchlaw20_ScrambleDecodes.j0 k y0 y1 y2) (signalbenchlaw20_ScrambleDecodes.j0 (k + 1) y0 y1 y2)) ∧ (∀ y0 y1 y2 y3 y4 y5 y6 y7 y8 y9 y10 y11 y12 y13 y14 y15 y16 y17 y18 y19, LeO (signalbenchlaw20_ScrambleDecodes.l0 k y0 y1 y2 y3 y4 y5 y6 y7 y8 y9 y10 y11 y12 y13 y14 y15 y16 y17 y18 y19) (signalbenchlaw20_ScrambleDecodes.l0 (k + 1) y0 y1 y2 y3 y4 y5 y6 y7 y8 y9 y10 y11 y12 y13 y14 y15 y16 y17 y18 y19))
 | 0 => ⟨fun _ _ _ r h => by simp [signalbenchlaw20_ScrambleDecodes.j0] at h, fun _ _ _ _ _ _ _ _ _ _ _ _ _ _ _ _ _ _ _ _ r h => by simp [signalbenchlaw20_ScrambleDecodes.l0] at h⟩
 | k + 1 => by
  obtain ⟨ih0, ih1⟩ := signalbenchlaw20_ScrambleDecodes.mono_l k
  refine ⟨?_, ?_⟩
  ·intro y0 y1 y2
   unfold signalbenchlaw20_ScrambleDecodes.j0
   repeat' first
   | (with_reducible exact ih0 _ _ _)
   | (with_reducible exact ih1 _ _ _ _ _ _ _ _ _ _ _ _ _ _ _ _ _ _ _ _)
   | (with_reducible exact scramble_Decode.mono _ _ _ _)
   | (with_reducible exact scramble_Step.mono _ _ _ _ _ _ _ _ _ _ _ _ _ _ _ _ _ _)
   | (with_reducible exact signalbenchlaw20_awake.mono _)
   | (with_reducible exact signalbenchref07_Same.mono _ _ _)
   | (with_reducible exact signalbenchref20_Decode.mono _ _ _ _)
   | (with_reducible exact signalbenchref20_Step.mono _ _ _ _ _ _ _ _ _ _ _ _ _ _ _ _ _ _)
   | (with_reducible exact LeO.refl _)
   | (with_reducible exact LeO.none _)
   | (with_reducible refine LeO.ite ?_ ?_)
   | (with_reducible refine LeO.bind ?_ (fun _ => ?_))
   | exact ih0 _ _ _
   | exact ih1 _ _ _ _ _ _ _ _ _ _ _ _ _ _ _ _ _ _ _ _
   | exact scramble_Decode.mono _ _ _ _
   | exact scramble_Step.mono _ _ _ _ _ _ _ _ _ _ _ _ _ _ _ _ _ _
   | exact signalbenchlaw20_awake.mono _
   | exact signalbenchref07_Same.mono _ _ _
   | exact signalbenchref20_Decode.mono _ _ _ _
   | exact signalbenchref20_Step.mono _ _ _ _ _ _ _ _ _ _ _ _ _ _ _ _ _ _
   | exact LeO.none _
   | refine LeO.ite ?_ ?_
   | refine LeO.bind ?_ (fun _ => ?_)
  ·intro y0 y1 y2 y3 y4 y5 y6 y7 y8 y9 y10 y11 y12 y13 y14 y15 y16 y17 y18 y19
   unfold signalbenchlaw20_ScrambleDecodes.l0
   repeat' first
   | (with_reducible exact ih0 _ _ _)
   | (with_reducible exact ih1 _ _ _ _ _ _ _ _ _ _ _ _ _ _ _ _ _ _ _ _)
   | (with_reducible exact scramble_Decode.mono _ _ _ _)
   | (with_reducible exact scramble_Step.mono _ _ _ _ _ _ _ _ _ _ _ _ _ _ _ _ _ _)
   | (with_reducible exact signalbenchlaw20_awake.mono _)
   | (with_reducible exact signalbenchref07_Same.mono _ _ _)
   | (with_reducible exact signalbenchref20_Decode.mono _ _ _ _)
   | (with_reducible exact signalbenchref20_Step.mono _ _ _ _ _ _ _ _ _ _ _ _ _ _ _ _ _ _)
   | (with_reducible exact LeO.refl _)
   | (with_reducible exact LeO.none _)
   | (with_reducible refine LeO.ite ?_ ?_)
   | (with_reducible refine LeO.bind ?_ (fun _ => ?_))
   | exact ih0 _ _ _
   | exact ih1 _ _ _ _ _ _ _ _ _ _ _ _ _ _ _ _ _ _ _ _
   | exact scramble_Decode.mono _ _ _ _
   | exact scramble_Step.mono _ _ _ _ _ _ _ _ _ _ _ _ _ _ _ _ _ _
   | exact signalbenchlaw20_awake.mono _
   | exact signalbenchref07_Same.mono _ _ _
   | exact signalbenchref20_Decode.mono _ _ _ _
   | exact signalbenchref20_Step.mono _ _ _ _ _ _ _ _ _ _ _ _ _ _ _ _ _ _
   | exact LeO.none _
   | refine LeO.ite ?_ ?_
   | refine LeO.bind ?_ (fun _ => ?_)
theorem signalbenchlaw20_ScrambleDecodes.mono : ∀ a0 a1 a2 k, LeO (signalbenchlaw20_ScrambleDecodes.f k a0 a1 a2) (signalbenchlaw20_ScrambleDecodes.f (k + 1) a0 a1 a2) := by
 intro a0 a1 a2 k
 obtain ⟨ih0, ih1⟩ := signalbenchlaw20_ScrambleDecodes.mono_l k
 unfold signalbenchlaw20_ScrambleDecodes.f
 repeat' first
   | (with_reducible exact ih0 _ _ _)
   | (with_reducible exact ih1 _ _ _ _ _ _ _ _ _ _ _ _ _ _ _ _ _ _ _ _)
   | (with_reducible exact scramble_Decode.mono _ _ _ _)
   | (with_reducible exact scramble_Step.mono _ _ _ _ _ _ _ _ _ _ _ _ _ _ _ _ _ _)
   | (with_reducible exact signalbenchlaw20_awake.mono _)
   | (with_reducible exact signalbenchref07_Same.mono _ _ _)
   | (with_reducible exact signalbenchref20_Decode.mono _ _ _ _)
   | (with_reducible exact signalbenchref20_Step.mono _ _ _ _ _ _ _ _ _ _ _ _ _ _ _ _ _ _)
   | (with_reducible exact LeO.refl _)
   | (with_reducible exact LeO.none _)
   | (with_reducible refine LeO.ite ?_ ?_)
   | (with_reducible refine LeO.bind ?_ (fun _ => ?_))
   | exact ih0 _ _ _
   | exact ih1 _ _ _ _ _ _ _ _ _ _ _ _ _ _ _ _ _ _ _ _
   | exact scramble_Decode.mono _ _ _ _
   | exact scramble_Step.mono _ _ _ _ _ _ _ _ _ _ _ _ _ _ _ _ _ _
   | exact signalbenchlaw20_awake.mono _
   | exact signalbenchref07_Same.mono _ _ _
   | exact signalbenchref20_Decode.mono _ _ _ _
   | exact signalbenchref20_Step.mono _ _ _ _ _ _ _ _ _ _ _ _ _ _ _ _ _ _
   | exact LeO.none _
   | refine LeO.ite ?_ ?_
   | refine LeO.bind ?_ (fun _ => ?_)
def signalbenchlaw20_ScrambleDecodes.T8 : Bool × List (List Nat × List Nat) := (true, [([], []), ([], []), ([], []), ([], []), ([2, 3], [2, 3]), ([4], [4]), ([0, 1, 5], [0, 1, 5]), ([6], [6]), ([7], [7]), ([7], [7]), ([], []), ([10, 8, 6, 0, 1, 2, 3, 4, 5, 6, 7, 8, 10], [8, 10]), ([9, 11, 0, 1, 2, 3, 4, 5, 6, 7, 8, 9, 10, 11], [9])])
def signalbenchlaw20_ScrambleDecodes.B8 : List Nat := [0, 0, 0, 0, 12, 28, 63, 127, 255, 255, 0, 1535, 4095]
theorem signalbenchlaw20_ScrambleDecodes.tab8 : rtab .any (opsOf Try.f4 8) = signalbenchlaw20_ScrambleDecodes.T8 := by kernel_rfl
theorem signalbenchlaw20_ScrambleDecodes.bits8 : waitsOk signalbenchlaw20_ScrambleDecodes.T8.2 signalbenchlaw20_ScrambleDecodes.B8 = true := by kernel_rfl
def signalbenchlaw20_ScrambleDecodes.T9 : Bool × List (List Nat × List Nat) := (true, [([], []), ([], []), ([], []), ([], []), ([2, 3], [2, 3]), ([4], [4]), ([0, 1, 5], [0, 1, 5]), ([6], [6]), ([7], [7]), ([7], [7]), ([], []), ([10, 8, 6, 0, 1, 2, 3, 4, 5, 6, 7, 8, 10], [8, 10]), ([9, 11, 0, 1, 2, 3, 4, 5, 6, 7, 8, 9, 10, 11], [9])])
def signalbenchlaw20_ScrambleDecodes.B9 : List Nat := [0, 0, 0, 0, 12, 28, 63, 127, 255, 255, 0, 1535, 4095]
theorem signalbenchlaw20_ScrambleDecodes.tab9 : rtab .any (opsOf Try.f4 9) = signalbenchlaw20_ScrambleDecodes.T9 := by kernel_rfl
theorem signalbenchlaw20_ScrambleDecodes.bits9 : waitsOk signalbenchlaw20_ScrambleDecodes.T9.2 signalbenchlaw20_ScrambleDecodes.B9 = true := by kernel_rfl
def signalbenchlaw20_ScrambleDecodes.T14 : Bool × List (List Nat × List Nat) := (true, [([], []), ([], []), ([0, 1], [0, 1]), ([2], [2]), ([3], [3]), ([4, 2], [4]), ([5], [5]), ([5], [5]), ([6, 7, 5, 5], [5, 6, 7]), ([5], [5]), ([5], [5]), ([9, 10, 8, 5], [5, 9, 10]), ([8, 11, 11, 5], [5, 8, 11]), ([5, 12], [5, 12]), ([13, 12], [13]), ([14, 14], [14]), ([14, 15], [14, 15]), ([16, 15, 0, 1, 2, 3, 4, 5, 6, 7, 8, 9, 10, 11, 12, 13, 14, 15, 16], [16])])
def signalbenchlaw20_ScrambleDecodes.B14 : List Nat := [0, 0, 3, 7, 15, 31, 63, 63, 255, 63, 63, 2047, 4095, 8191, 16383, 32767, 65535, 131071]
theorem signalbenchlaw20_ScrambleDecodes.tab14 : rtab .any (opsOf Try.f4 14) = signalbenchlaw20_ScrambleDecodes.T14 := by kernel_rfl
theorem signalbenchlaw20_ScrambleDecodes.bits14 : waitsOk signalbenchlaw20_ScrambleDecodes.T14.2 signalbenchlaw20_ScrambleDecodes.B14 = true := by kernel_rfl
set_option maxHeartbeats 8000000 in
set_option maxRecDepth 100000 in
theorem signalbenchlaw20_ScrambleDecodes.calls (k : Nat) (a0_0 : Int) (a0_1 : Int) (A1 : Option Addr) (c1 : Nat) (l1 : List (S27)) (r : Bool) (w : World) (hr1 : Kd.C k27 w A1 l1.length l1) (hc1 : l1.length ≤ c1) (h : signalbenchlaw20_ScrambleDecodes.f k a0_0 a0_1 l1 = some r) :
  Calls Try.prog 4 #[.agg #[.int .i64 a0_0, .int .i64 a0_1], .slice A1 l1.length c1] w fun e w' => e = .returned (.bool r) ∧ Below w.heap.size w w' := by
 have hu23 := Try.underlying23
 have hu25 := Try.underlying25
 have hu27 := Try.underlying27
 have HR1 := Aside0.mk hr1
 have HC1 := Aside0.mk hc1
 clear hr1 hc1
 have HB := Aside0.mk (Below.refl w.heap.size w)
 have H : (if (l1.length : Int) > 2000 then ((signalbenchlaw20_awake.f k).bind fun t266 => (some t266)) else (signalbenchlaw20_ScrambleDecodes.j0 k l1 a0_0 a0_1)) = some r := h
 clear h
 have HC3 := Aside0.mk H
 clear H
 go_enter Try.func4, Try.ntmps4
 go_upto_if 14 with (first | ((with_reducible refine gate_dst (N := 2) rfl ?_); refine box_event ?hg (N := 2) ?hd (cs := #[.int .i64 a0_0, .int .i64 a0_1]) (t := 23) ?hr ?_; (case hd => rfl); (case hg => rfl); (case hr => first | (go_simp; done) | (go_simp; rfl)); intro gb265 hg w4 hbox hb; have n0_ := Aside0.mk (below_step (hbw HB.out) hb); have n1_ := Aside0.mk (hbox); have n2_ := Aside0.mk ((by rw [hg]; exact (below_size (hbw HB.out)) : w.heap.size ≤ gb265)); have n3_ := Aside0.mk ((by rw [hg]; exact (below_size (hbw HB.out)) : w.heap.size ≤ gb265)); clear HB; have HB := n0_; have BK265 := n1_; have GW265 := n2_; have GE265 := n3_; clear n0_ n1_ n2_ n3_; clear hb hbox hg))
 (try simp only [Act.put, List.setIfInBounds_toArray, List.set_cons_zero, List.set_cons_succ])
 go_cut [] (fun wc => ∃ (kq : Nat), Aside0 (signalbenchlaw20_ScrambleDecodes.j0 kq l1 a0_0 a0_1 = some r) ∧ Aside0 (kq ≤ k) ∧ Aside0 (wc.heap[gb265]? = some (.cells #[.int .i64 a0_0, .int .i64 a0_1] 23 (0, 0))) ∧ Aside0 (Below w.heap.size w wc))
 case first =>
  have H := HC3.out
  clear HC3
  by_cases c5 : (l1.length : Int) > 2000
  ·rw [if_pos c5] at H
   have c5b0 : decide (2000 < (l1.length : Int)) = true := decide_eq_true c5
   have c5b1 : decide (2000 < l1.length) = true := decide_eq_true (by omega)
   clear c5
   (first | rw [c5b0] | (simp only [i64_w, i32_w]; rw [c5b0]) | skip)
   replace H := Option.bind_eq_some_iff.mp H
   obtain ⟨t266, A60, H⟩ := H
   replace H : (some t266) = some r := H
   have A6 := Aside0.mk A60
   clear A60
   obtain rfl := Option.some.inj H
   go_wp2_with (first | ((with_reducible refine gate_callee (f := 11) rfl ?_); refine goesL_ (some 15) rfl rfl Try.func11 (by kernel_rfl) rfl #[] rfl (by (try simp only [List.map_toArray, List.map_cons, List.map_nil]); first | done | rfl | (simp only [List.length_drop, List.length_take]; rfl)) ?_; (with_reducible refine (signalbenchlaw20_awake.calls k  t266 _ A6.out).mono ?_); rintro e w7 ⟨rfl, hb⟩; refine ⟨_, rfl, ?_⟩; have n0_ := Aside0.mk (blkb BK265.out hb); have n1_ := Aside0.mk (below_step (hbw HB.out) hb); clear BK265; clear HB; have BK265 := n0_; have HB := n1_; clear n0_ n1_; (try clear hb); (try clear hb2); (try clear hk); (try clear hi)))
   go_ret
   exact ⟨by first | rfl | (simp [errW_none, errW_some] <;> rfl) | (simp [*, errW_none, errW_some] <;> rfl), by repeat (first | (with_reducible first | exact HB.out | apply below_alloc | apply pw_below_drewN | apply below_drew1 | refine below_set ?_ GE265.out) | exact HB.out)⟩
  ·rw [if_neg c5] at H
   have c5b0 : decide (2000 < (l1.length : Int)) = false := decide_eq_false c5
   have c5b1 : decide (2000 < l1.length) = false := decide_eq_false (by omega)
   clear c5
   (first | rw [c5b0] | (simp only [i64_w, i32_w]; rw [c5b0]) | skip)
   have H' := Aside0.mk H
   clear H
   go_wp2
   go_meet
   case rel => exact ⟨_, H', ⟨by first | omega | exact Nat.le_refl _⟩, ⟨by (with_reducible repeat (first | refine blk_drewN ?_ _ | refine blk_drew ?_ | refine blk_alloc ?_ _)); exact BK265.out⟩, ⟨by repeat (first | (with_reducible first | exact HB.out | apply below_alloc | apply pw_below_drewN | apply below_drew1 | refine below_set ?_ GE265.out) | exact HB.out)⟩⟩
 case rest =>
  clear HC3
  try clear c1
  try clear p2
  try clear c4
  try clear c5
  try clear c5b0
  try clear c5b1
  obtain ⟨kq, HA, HJ2, BK265, HB⟩ := hcut
  cases kq with
  | zero => exact absurd HA.out (by simp [signalbenchlaw20_ScrambleDecodes.j0])
  | succ kj2 =>
   have H := HA.out
   clear HA
   simp only [signalbenchlaw20_ScrambleDecodes.j0] at H
   replace H := Option.bind_eq_some_iff.mp H
   obtain ⟨⟨t267, t268, t269, t270, t271, t272, t273, t274⟩, A80, H⟩ := H
   replace H : ((signalbenchref20_Start.f a0_0 a0_1).bind fun bt276 => (signalbenchlaw20_ScrambleDecodes.l0 kj2 l1 0 a0_0 a0_1 t267 t268 t269 t270 t271 t272 t273 t274 bt276.1 bt276.2.1 bt276.2.2.1 bt276.2.2.2.1 bt276.2.2.2.2.1 bt276.2.2.2.2.2.1 bt276.2.2.2.2.2.2.1 bt276.2.2.2.2.2.2.2)) = some r := H
   have A8 := Aside0.mk A80
   clear A80
   replace H := Option.bind_eq_some_iff.mp H
   obtain ⟨⟨t276, t277, t278, t279, t280, t281, t282, t283⟩, A90, H⟩ := H
   replace H : (signalbenchlaw20_ScrambleDecodes.l0 kj2 l1 0 a0_0 a0_1 t267 t268 t269 t270 t271 t272 t273 t274 t276 t277 t278 t279 t280 t281 t282 t283) = some r := H
   have A9 := Aside0.mk A90
   clear A90
   have H' := Aside0.mk H
   clear H
   have hcz10_0 : wc.cell? ⟨gb265, 0, none⟩ = some (.int .i64 a0_0) := (blk_cell BK265.out 0).trans rfl
   have hcz10_1 : wc.cell? ⟨gb265, 1, none⟩ = some (.int .i64 a0_1) := (blk_cell BK265.out 1).trans rfl
   have hfz10_0 := blk_frozen BK265.out 0
   have hfz10_1 := blk_frozen BK265.out 1
   go_wp2_with (first | ((with_reducible refine gate_callee (f := 14) rfl ?_); refine goesL_ (some 17) rfl rfl Try.func14 (by kernel_rfl) rfl #[.agg #[.int .i64 a0_0, .int .i64 a0_1]] rfl (by (try simp only [List.map_toArray, List.map_cons, List.map_nil]); first | done | rfl | (simp only [List.length_drop, List.length_take]; rfl)) ?_; (with_reducible refine (scramble_Start.calls a0_0 a0_1 t267 t268 t269 t270 t271 t272 t273 t274 _ A8.out).mono ?_); rintro e w11 ⟨rfl, hb⟩; refine ⟨_, rfl, ?_⟩; have n0_ := Aside0.mk (blkb BK265.out hb); have n1_ := Aside0.mk (below_step (hbw HB.out) hb); clear BK265; clear HB; have BK265 := n0_; have HB := n1_; clear n0_ n1_; (try clear hb); (try clear hb2); (try clear hk); (try clear hi)) | ((with_reducible refine gate_dst (N := 5) rfl ?_); refine box_event ?hg (N := 5) ?hd (cs := #[.int .i64 0, .int .i64 0, .int .i64 0, .int .i64 0, .int .i64 0, .int .i64 0, .int .i64 0, .string (⟨#[]⟩ : ByteArray)]) (t := 25) ?hr ?_; (case hd => rfl); (case hg => rfl); (case hr => first | (go_simp; done) | (go_simp; rfl)); intro gb275 hg w12 hbox hb; have n0_ := Aside0.mk (blkb BK265.out hb); have n1_ := Aside0.mk (below_step (hbw HB.out) hb); have n2_ := Aside0.mk (hbox); have n3_ := Aside0.mk ((by rw [hg]; exact (below_size (hbw HB.out)) : w.heap.size ≤ gb275)); have n4_ := Aside0.mk ((by rw [hg]; exact (below_size (hbw HB.out)) : w.heap.size ≤ gb275)); have n5_ := Aside0.mk ((by rw [hg]; exact Nat.ne_of_lt (blkl BK265.out) : gb265 ≠ gb275)); have n6_ := Aside0.mk ((by rw [hg]; exact Nat.ne_of_gt (blkl BK265.out) : gb275 ≠ gb265)); clear BK265; clear HB; have BK265 := n0_; have HB := n1_; have BK275 := n2_; have GW275 := n3_; have GE275 := n4_; have NB265_275 := n5_; have NB275_265 := n6_; clear n0_ n1_ n2_ n3_ n4_ n5_ n6_; clear hb hbox hg; have hnb13 := NB275_265.out; have hnc13 := NB265_275.out; have hcz14_0 : w12.cell? ⟨gb275, 0, none⟩ = some (.int .i64 0) := (blk_cell BK275.out 0).trans rfl; have hcz14_1 : w12.cell? ⟨gb275, 1, none⟩ = some (.int .i64 0) := (blk_cell BK275.out 1).trans rfl; have hcz14_2 : w12.cell? ⟨gb275, 2, none⟩ = some (.int .i64 0) := (blk_cell BK275.out 2).trans rfl; have hcz14_3 : w12.cell? ⟨gb275, 3, none⟩ = some (.int .i64 0) := (blk_cell BK275.out 3).trans rfl; have hcz14_4 : w12.cell? ⟨gb275, 4, none⟩ = some (.int .i64 0) := (blk_cell BK275.out 4).trans rfl; have hcz14_5 : w12.cell? ⟨gb275, 5, none⟩ = some (.int .i64 0) := (blk_cell BK275.out 5).trans rfl; have hcz14_6 : w12.cell? ⟨gb275, 6, none⟩ = some (.int .i64 0) := (blk_cell BK275.out 6).trans rfl; have hcz14_7 : w12.cell? ⟨gb275, 7, none⟩ = some (.string (⟨#[]⟩ : ByteArray)) := (blk_cell BK275.out 7).trans rfl; have hfz14_0 := blk_frozen BK275.out 0; have hfz14_1 := blk_frozen BK275.out 1; have hfz14_2 := blk_frozen BK275.out 2; have hfz14_3 := blk_frozen BK275.out 3; have hfz14_4 := blk_frozen BK275.out 4; have hfz14_5 := blk_frozen BK275.out 5; have hfz14_6 := blk_frozen BK275.out 6; have hfz14_7 := blk_frozen BK275.out 7; have hcz15_0 : w12.cell? ⟨gb265, 0, none⟩ = some (.int .i64 a0_0) := (blk_cell BK265.out 0).trans rfl; have hcz15_1 : w12.cell? ⟨gb265, 1, none⟩ = some (.int .i64 a0_1) := (blk_cell BK265.out 1).trans rfl; have hfz15_0 := blk_frozen BK265.out 0; have hfz15_1 := blk_frozen BK265.out 1) | ((with_reducible refine gate_callee (f := 17) rfl ?_); refine goesL_ (some 19) rfl rfl Try.func17 (by kernel_rfl) rfl #[.agg #[.int .i64 a0_0, .int .i64 a0_1]] rfl (by (try simp only [List.map_toArray, List.map_cons, List.map_nil]); first | done | rfl | (simp only [List.length_drop, List.length_take]; rfl)) ?_; (with_reducible refine (signalbenchref20_Start.calls a0_0 a0_1 t276 t277 t278 t279 t280 t281 t282 t283 _ A9.out).mono ?_); rintro e w16 ⟨rfl, hb⟩; refine ⟨_, rfl, ?_⟩; have n0_ := Aside0.mk (blk_below (g := gb265) (o := .cells #[.int .i64 a0_0, .int .i64 a0_1] 23 (0, 0)) (by (with_reducible repeat (first | refine blk_drewN ?_ _ | refine blk_drew ?_ | refine blk_alloc ?_ _)); refine blk_far ?_ NB265_275.out _; (with_reducible repeat (first | refine blk_drewN ?_ _ | refine blk_drew ?_ | refine blk_alloc ?_ _)); refine blk_far ?_ NB265_275.out _; (with_reducible repeat (first | refine blk_drewN ?_ _ | refine blk_drew ?_ | refine blk_alloc ?_ _)); refine blk_far ?_ NB265_275.out _; (with_reducible repeat (first | refine blk_drewN ?_ _ | refine blk_drew ?_ | refine blk_alloc ?_ _)); refine blk_far ?_ NB265_275.out _; (with_reducible repeat (first | refine blk_drewN ?_ _ | refine blk_drew ?_ | refine blk_alloc ?_ _)); refine blk_far ?_ NB265_275.out _; (with_reducible repeat (first | refine blk_drewN ?_ _ | refine blk_drew ?_ | refine blk_alloc ?_ _)); refine blk_far ?_ NB265_275.out _; (with_reducible repeat (first | refine blk_drewN ?_ _ | refine blk_drew ?_ | refine blk_alloc ?_ _)); refine blk_far ?_ NB265_275.out _; (with_reducible repeat (first | refine blk_drewN ?_ _ | refine blk_drew ?_ | refine blk_alloc ?_ _)); refine blk_far ?_ NB265_275.out _; (with_reducible repeat (first | refine blk_drewN ?_ _ | refine blk_drew ?_ | refine blk_alloc ?_ _)); exact BK265.out) hb); have n1_ := Aside0.mk (blk_below (g := gb275) (o := .cells #[.int .i64 t267, .int .i64 t268, .int .i64 t269, .int .i64 t270, .int .i64 t271, .int .i64 t272, .int .i64 t273, .string t274] 25 (0, 0)) (by (with_reducible repeat (first | refine blk_drewN ?_ _ | refine blk_drew ?_ | refine blk_alloc ?_ _)); refine blk_put (cs := #[.int .i64 t267, .int .i64 t268, .int .i64 t269, .int .i64 t270, .int .i64 t271, .int .i64 t272, .int .i64 t273, .string (⟨#[]⟩ : ByteArray)]) ?_ 7 _ rfl; (with_reducible repeat (first | refine blk_drewN ?_ _ | refine blk_drew ?_ | refine blk_alloc ?_ _)); refine blk_put (cs := #[.int .i64 t267, .int .i64 t268, .int .i64 t269, .int .i64 t270, .int .i64 t271, .int .i64 t272, .int .i64 0, .string (⟨#[]⟩ : ByteArray)]) ?_ 6 _ rfl; (with_reducible repeat (first | refine blk_drewN ?_ _ | refine blk_drew ?_ | refine blk_alloc ?_ _)); refine blk_put (cs := #[.int .i64 t267, .int .i64 t268, .int .i64 t269, .int .i64 t270, .int .i64 t271, .int .i64 0, .int .i64 0, .string (⟨#[]⟩ : ByteArray)]) ?_ 5 _ rfl; (with_reducible repeat (first | refine blk_drewN ?_ _ | refine blk_drew ?_ | refine blk_alloc ?_ _)); refine blk_put (cs := #[.int .i64 t267, .int .i64 t268, .int .i64 t269, .int .i64 t270, .int .i64 0, .int .i64 0, .int .i64 0, .string (⟨#[]⟩ : ByteArray)]) ?_ 4 _ rfl; (with_reducible repeat (first | refine blk_drewN ?_ _ | refine blk_drew ?_ | refine blk_alloc ?_ _)); refine blk_put (cs := #[.int .i64 t267, .int .i64 t268, .int .i64 t269, .int .i64 0, .int .i64 0, .int .i64 0, .int .i64 0, .string (⟨#[]⟩ : ByteArray)]) ?_ 3 _ rfl; (with_reducible repeat (first | refine blk_drewN ?_ _ | refine blk_drew ?_ | refine blk_alloc ?_ _)); refine blk_put (cs := #[.int .i64 t267, .int .i64 t268, .int .i64 0, .int .i64 0, .int .i64 0, .int .i64 0, .int .i64 0, .string (⟨#[]⟩ : ByteArray)]) ?_ 2 _ rfl; (with_reducible repeat (first | refine blk_drewN ?_ _ | refine blk_drew ?_ | refine blk_alloc ?_ _)); refine blk_put (cs := #[.int .i64 t267, .int .i64 0, .int .i64 0, .int .i64 0, .int .i64 0, .int .i64 0, .int .i64 0, .string (⟨#[]⟩ : ByteArray)]) ?_ 1 _ rfl; (with_reducible repeat (first | refine blk_drewN ?_ _ | refine blk_drew ?_ | refine blk_alloc ?_ _)); refine blk_put (cs := #[.int .i64 0, .int .i64 0, .int .i64 0, .int .i64 0, .int .i64 0, .int .i64 0, .int .i64 0, .string (⟨#[]⟩ : ByteArray)]) ?_ 0 _ rfl; (with_reducible repeat (first | refine blk_drewN ?_ _ | refine blk_drew ?_ | refine blk_alloc ?_ _)); exact BK275.out) hb); have n2_ := Aside0.mk (below_step (hbw HB.out) hb); clear BK265; clear BK275; clear HB; have BK265 := n0_; have BK275 := n1_; have HB := n2_; clear n0_ n1_ n2_; (try clear hb); (try clear hb2); (try clear hk); (try clear hi)) | ((with_reducible refine gate_dst (N := 6) rfl ?_); refine box_event ?hg (N := 6) ?hd (cs := #[.int .i64 0, .int .i64 0, .int .i64 0, .int .i64 0, .int .i64 0, .int .i64 0, .int .i64 0, .string (⟨#[]⟩ : ByteArray)]) (t := 25) ?hr ?_; (case hd => rfl); (case hg => rfl); (case hr => first | (go_simp; done) | (go_simp; rfl)); intro gb284 hg w17 hbox hb; have n0_ := Aside0.mk (blkb BK265.out hb); have n1_ := Aside0.mk (blkb BK275.out hb); have n2_ := Aside0.mk (below_step (hbw HB.out) hb); have n3_ := Aside0.mk (hbox); have n4_ := Aside0.mk ((by rw [hg]; exact (below_size (hbw HB.out)) : w.heap.size ≤ gb284)); have n5_ := Aside0.mk ((by rw [hg]; exact (below_size (hbw HB.out)) : w.heap.size ≤ gb284)); have n6_ := Aside0.mk ((by rw [hg]; exact Nat.ne_of_lt (blkl BK265.out) : gb265 ≠ gb284)); have n7_ := Aside0.mk ((by rw [hg]; exact Nat.ne_of_gt (blkl BK265.out) : gb284 ≠ gb265)); have n8_ := Aside0.mk ((by rw [hg]; exact Nat.ne_of_lt (blkl BK275.out) : gb275 ≠ gb284)); have n9_ := Aside0.mk ((by rw [hg]; exact Nat.ne_of_gt (blkl BK275.out) : gb284 ≠ gb275)); clear BK265; clear BK275; clear HB; have BK265 := n0_; have BK275 := n1_; have HB := n2_; have BK284 := n3_; have GW284 := n4_; have GE284 := n5_; have NB265_284 := n6_; have NB284_265 := n7_; have NB275_284 := n8_; have NB284_275 := n9_; clear n0_ n1_ n2_ n3_ n4_ n5_ n6_ n7_ n8_ n9_; clear hb hbox hg; have hnb18 := NB284_265.out; have hnc18 := NB265_284.out; have hnb19 := NB284_275.out; have hnc19 := NB275_284.out; have hcz20_0 : w17.cell? ⟨gb284, 0, none⟩ = some (.int .i64 0) := (blk_cell BK284.out 0).trans rfl; have hcz20_1 : w17.cell? ⟨gb284, 1, none⟩ = some (.int .i64 0) := (blk_cell BK284.out 1).trans rfl; have hcz20_2 : w17.cell? ⟨gb284, 2, none⟩ = some (.int .i64 0) := (blk_cell BK284.out 2).trans rfl; have hcz20_3 : w17.cell? ⟨gb284, 3, none⟩ = some (.int .i64 0) := (blk_cell BK284.out 3).trans rfl; have hcz20_4 : w17.cell? ⟨gb284, 4, none⟩ = some (.int .i64 0) := (blk_cell BK284.out 4).trans rfl; have hcz20_5 : w17.cell? ⟨gb284, 5, none⟩ = some (.int .i64 0) := (blk_cell BK284.out 5).trans rfl; have hcz20_6 : w17.cell? ⟨gb284, 6, none⟩ = some (.int .i64 0) := (blk_cell BK284.out 6).trans rfl; have hcz20_7 : w17.cell? ⟨gb284, 7, none⟩ = some (.string (⟨#[]⟩ : ByteArray)) := (blk_cell BK284.out 7).trans rfl; have hfz20_0 := blk_frozen BK284.out 0; have hfz20_1 := blk_frozen BK284.out 1; have hfz20_2 := blk_frozen BK284.out 2; have hfz20_3 := blk_frozen BK284.out 3; have hfz20_4 := blk_frozen BK284.out 4; have hfz20_5 := blk_frozen BK284.out 5; have hfz20_6 := blk_frozen BK284.out 6; have hfz20_7 := blk_frozen BK284.out 7))
   go_loopg [7] kj2 (fun kq v7 w' => ∃ (x7_2 : Int) (x276000_2 : Int) (x276001_2 : Int) (x276002_2 : Int) (x276003_2 : Int) (x276004_2 : Int) (x276005_2 : Int) (x276006_2 : Int) (x276007_2 : ByteArray) (x285000_2 : Int) (x285001_2 : Int) (x285002_2 : Int) (x285003_2 : Int) (x285004_2 : Int) (x285005_2 : Int) (x285006_2 : Int) (x285007_2 : ByteArray), v7 = .int .i64 x7_2 ∧ Aside0 (signalbenchlaw20_ScrambleDecodes.l0 kq l1 x7_2 a0_0 a0_1 x276000_2 x276001_2 x276002_2 x276003_2 x276004_2 x276005_2 x276006_2 x276007_2 x285000_2 x285001_2 x285002_2 x285003_2 x285004_2 x285005_2 x285006_2 x285007_2 = some r) ∧ Aside0 (kq ≤ kj2) ∧ Aside0 (w'.heap[gb265]? = some (.cells #[.int .i64 a0_0, .int .i64 a0_1] 23 (0, 0))) ∧ Aside0 (w'.heap[gb275]? = some (.cells #[.int .i64 x276000_2, .int .i64 x276001_2, .int .i64 x276002_2, .int .i64 x276003_2, .int .i64 x276004_2, .int .i64 x276005_2, .int .i64 x276006_2, .string x276007_2] 25 (0, 0))) ∧ Aside0 (w'.heap[gb284]? = some (.cells #[.int .i64 x285000_2, .int .i64 x285001_2, .int .i64 x285002_2, .int .i64 x285003_2, .int .i64 x285004_2, .int .i64 x285005_2, .int .i64 x285006_2, .string x285007_2] 25 (0, 0))) ∧ Aside0 (Below w.heap.size w w'))
   case atStart => exact ⟨(0), (t267), (t268), (t269), (t270), (t271), (t272), (t273), (t274), (t276), (t277), (t278), (t279), (t280), (t281), (t282), (t283), (by first | rfl | (simp; done) | (simp [*]; done)), H', ⟨Nat.le_refl _⟩, ⟨by (with_reducible repeat (first | refine blk_drewN ?_ _ | refine blk_drew ?_ | refine blk_alloc ?_ _)); refine blk_far ?_ NB265_284.out _; (with_reducible repeat (first | refine blk_drewN ?_ _ | refine blk_drew ?_ | refine blk_alloc ?_ _)); refine blk_far ?_ NB265_284.out _; (with_reducible repeat (first | refine blk_drewN ?_ _ | refine blk_drew ?_ | refine blk_alloc ?_ _)); refine blk_far ?_ NB265_284.out _; (with_reducible repeat (first | refine blk_drewN ?_ _ | refine blk_drew ?_ | refine blk_alloc ?_ _)); refine blk_far ?_ NB265_284.out _; (with_reducible repeat (first | refine blk_drewN ?_ _ | refine blk_drew ?_ | refine blk_alloc ?_ _)); refine blk_far ?_ NB265_284.out _; (with_reducible repeat (first | refine blk_drewN ?_ _ | refine blk_drew ?_ | refine blk_alloc ?_ _)); refine blk_far ?_ NB265_284.out _; (with_reducible repeat (first | refine blk_drewN ?_ _ | refine blk_drew ?_ | refine blk_alloc ?_ _)); refine blk_far ?_ NB265_284.out _; (with_reducible repeat (first | refine blk_drewN ?_ _ | refine blk_drew ?_ | refine blk_alloc ?_ _)); refine blk_far ?_ NB265_284.out _; (with_reducible repeat (first | refine blk_drewN ?_ _ | refine blk_drew ?_ | refine blk_alloc ?_ _)); exact BK265.out⟩, ⟨by (with_reducible repeat (first | refine blk_drewN ?_ _ | refine blk_drew ?_ | refine blk_alloc ?_ _)); refine blk_far ?_ NB275_284.out _; (with_reducible repeat (first | refine blk_drewN ?_ _ | refine blk_drew ?_ | refine blk_alloc ?_ _)); refine blk_far ?_ NB275_284.out _; (with_reducible repeat (first | refine blk_drewN ?_ _ | refine blk_drew ?_ | refine blk_alloc ?_ _)); refine blk_far ?_ NB275_284.out _; (with_reducible repeat (first | refine blk_drewN ?_ _ | refine blk_drew ?_ | refine blk_alloc ?_ _)); refine blk_far ?_ NB275_284.out _; (with_reducible repeat (first | refine blk_drewN ?_ _ | refine blk_drew ?_ | refine blk_alloc ?_ _)); refine blk_far ?_ NB275_284.out _; (with_reducible repeat (first | refine blk_drewN ?_ _ | refine blk_drew ?_ | refine blk_alloc ?_ _)); refine blk_far ?_ NB275_284.out _; (with_reducible repeat (first | refine blk_drewN ?_ _ | refine blk_drew ?_ | refine blk_alloc ?_ _)); refine blk_far ?_ NB275_284.out _; (with_reducible repeat (first | refine blk_drewN ?_ _ | refine blk_drew ?_ | refine blk_alloc ?_ _)); refine blk_far ?_ NB275_284.out _; (with_reducible repeat (first | refine blk_drewN ?_ _ | refine blk_drew ?_ | refine blk_alloc ?_ _)); exact BK275.out⟩, ⟨by (with_reducible repeat (first | refine blk_drewN ?_ _ | refine blk_drew ?_ | refine blk_alloc ?_ _)); refine blk_put (cs := #[.int .i64 t276, .int .i64 t277, .int .i64 t278, .int .i64 t279, .int .i64 t280, .int .i64 t281, .int .i64 t282, .string (⟨#[]⟩ : ByteArray)]) ?_ 7 _ rfl; (with_reducible repeat (first | refine blk_drewN ?_ _ | refine blk_drew ?_ | refine blk_alloc ?_ _)); refine blk_put (cs := #[.int .i64 t276, .int .i64 t277, .int .i64 t278, .int .i64 t279, .int .i64 t280, .int .i64 t281, .int .i64 0, .string (⟨#[]⟩ : ByteArray)]) ?_ 6 _ rfl; (with_reducible repeat (first | refine blk_drewN ?_ _ | refine blk_drew ?_ | refine blk_alloc ?_ _)); refine blk_put (cs := #[.int .i64 t276, .int .i64 t277, .int .i64 t278, .int .i64 t279, .int .i64 t280, .int .i64 0, .int .i64 0, .string (⟨#[]⟩ : ByteArray)]) ?_ 5 _ rfl; (with_reducible repeat (first | refine blk_drewN ?_ _ | refine blk_drew ?_ | refine blk_alloc ?_ _)); refine blk_put (cs := #[.int .i64 t276, .int .i64 t277, .int .i64 t278, .int .i64 t279, .int .i64 0, .int .i64 0, .int .i64 0, .string (⟨#[]⟩ : ByteArray)]) ?_ 4 _ rfl; (with_reducible repeat (first | refine blk_drewN ?_ _ | refine blk_drew ?_ | refine blk_alloc ?_ _)); refine blk_put (cs := #[.int .i64 t276, .int .i64 t277, .int .i64 t278, .int .i64 0, .int .i64 0, .int .i64 0, .int .i64 0, .string (⟨#[]⟩ : ByteArray)]) ?_ 3 _ rfl; (with_reducible repeat (first | refine blk_drewN ?_ _ | refine blk_drew ?_ | refine blk_alloc ?_ _)); refine blk_put (cs := #[.int .i64 t276, .int .i64 t277, .int .i64 0, .int .i64 0, .int .i64 0, .int .i64 0, .int .i64 0, .string (⟨#[]⟩ : ByteArray)]) ?_ 2 _ rfl; (with_reducible repeat (first | refine blk_drewN ?_ _ | refine blk_drew ?_ | refine blk_alloc ?_ _)); refine blk_put (cs := #[.int .i64 t276, .int .i64 0, .int .i64 0, .int .i64 0, .int .i64 0, .int .i64 0, .int .i64 0, .string (⟨#[]⟩ : ByteArray)]) ?_ 1 _ rfl; (with_reducible repeat (first | refine blk_drewN ?_ _ | refine blk_drew ?_ | refine blk_alloc ?_ _)); refine blk_put (cs := #[.int .i64 0, .int .i64 0, .int .i64 0, .int .i64 0, .int .i64 0, .int .i64 0, .int .i64 0, .string (⟨#[]⟩ : ByteArray)]) ?_ 0 _ rfl; (with_reducible repeat (first | refine blk_drewN ?_ _ | refine blk_drew ?_ | refine blk_alloc ?_ _)); exact BK284.out⟩, ⟨by repeat (first | (with_reducible first | exact HB.out | apply below_alloc | apply pw_below_drewN | apply below_drew1 | refine below_set ?_ GE265.out | refine below_set ?_ GE275.out | refine below_set ?_ GE284.out) | exact HB.out)⟩⟩
   case round =>
    clear H'
    try clear c1
    try clear p2
    try clear c4
    try clear c5
    try clear c5b0
    try clear c5b1
    try clear c11
    try clear c13
    try clear c14
    try clear c17
    try clear c18
    try clear c19
    try clear hcz10_0
    try clear hcz10_1
    try clear hcz14_0
    try clear hcz14_1
    try clear hcz14_2
    try clear hcz14_3
    try clear hcz14_4
    try clear hcz14_5
    try clear hcz14_6
    try clear hcz14_7
    try clear hcz15_0
    try clear hcz15_1
    try clear hcz20_0
    try clear hcz20_1
    try clear hcz20_2
    try clear hcz20_3
    try clear hcz20_4
    try clear hcz20_5
    try clear hcz20_6
    try clear hcz20_7
    try clear hfz10_0
    try clear hfz10_1
    try clear hfz14_0
    try clear hfz14_1
    try clear hfz14_2
    try clear hfz14_3
    try clear hfz14_4
    try clear hfz14_5
    try clear hfz14_6
    try clear hfz14_7
    try clear hfz15_0
    try clear hfz15_1
    try clear hfz20_0
    try clear hfz20_1
    try clear hfz20_2
    try clear hfz20_3
    try clear hfz20_4
    try clear hfz20_5
    try clear hfz20_6
    try clear hfz20_7
    try clear p2
    obtain ⟨x7_2, x276000_2, x276001_2, x276002_2, x276003_2, x276004_2, x276005_2, x276006_2, x276007_2, x285000_2, x285001_2, x285002_2, x285003_2, x285004_2, x285005_2, x285006_2, x285007_2, rfl, HA, HK2, BK265, BK275, BK284, HB⟩ := hrel
    cases gk with
    | zero => exact absurd HA.out (by simp [signalbenchlaw20_ScrambleDecodes.l0])
    | succ k2 =>
     have H := HA.out
     clear HA
     simp only [signalbenchlaw20_ScrambleDecodes.l0] at H
     by_cases c21 : x7_2 < (l1.length : Int)
     ·rw [if_pos c21] at H
      have c21b0 : decide (x7_2 < (l1.length : Int)) = true := decide_eq_true c21
      clear c21
      by_cases c22 : 0 ≤ x7_2
      ·rw [if_pos c22] at H
       have c22b0 : decide (0 ≤ x7_2) = true := decide_eq_true c22
       clear c22
       replace H := Option.bind_eq_some_iff.mp H
       obtain ⟨⟨t286, t287, t288, t289, t290, t291, t292, t293, t294⟩, A230, H⟩ := H
       replace H : ((signalbenchref20_Step.f k2 a0_0 a0_1 x285000_2 x285001_2 x285002_2 x285003_2 x285004_2 x285005_2 x285006_2 x285007_2 ((rd_T27 l1 x7_2).f0) ((rd_T27 l1 x7_2).f1) ((rd_T27 l1 x7_2).f2) ((rd_T27 l1 x7_2).f3) ((rd_T27 l1 x7_2).f4) ((rd_T27 l1 x7_2).f5) ((rd_T27 l1 x7_2).f6)).bind fun bt299 => ((signalbenchref07_Same.f k2 t294 bt299.2.2.2.2.2.2.2.2).bind fun t311 => (if t311 = true then (signalbenchlaw20_ScrambleDecodes.l0 k2 l1 (wrap64 (x7_2 + 1)) a0_0 a0_1 t286 t287 t288 t289 t290 t291 t292 t293 bt299.1 bt299.2.1 bt299.2.2.1 bt299.2.2.2.1 bt299.2.2.2.2.1 bt299.2.2.2.2.2.1 bt299.2.2.2.2.2.2.1 bt299.2.2.2.2.2.2.2.1) else (some false)))) = some r := H
       have A23 := Aside0.mk A230
       clear A230
       replace H := Option.bind_eq_some_iff.mp H
       obtain ⟨⟨t299, t300, t301, t302, t303, t304, t305, t306, t307⟩, A240, H⟩ := H
       replace H : ((signalbenchref07_Same.f k2 t294 t307).bind fun t311 => (if t311 = true then (signalbenchlaw20_ScrambleDecodes.l0 k2 l1 (wrap64 (x7_2 + 1)) a0_0 a0_1 t286 t287 t288 t289 t290 t291 t292 t293 t299 t300 t301 t302 t303 t304 t305 t306) else (some false))) = some r := H
       have A24 := Aside0.mk A240
       clear A240
       replace H := Option.bind_eq_some_iff.mp H
       obtain ⟨t311, A250, H⟩ := H
       replace H : (if t311 = true then (signalbenchlaw20_ScrambleDecodes.l0 k2 l1 (wrap64 (x7_2 + 1)) a0_0 a0_1 t286 t287 t288 t289 t290 t291 t292 t293 t299 t300 t301 t302 t303 t304 t305 t306) else (some false)) = some r := H
       have A25 := Aside0.mk A250
       clear A250
       by_cases c26 : t311 = true
       ·subst c26
        have H1 : (signalbenchlaw20_ScrambleDecodes.l0 k2 l1 (wrap64 (x7_2 + 1)) a0_0 a0_1 t286 t287 t288 t289 t290 t291 t292 t293 t299 t300 t301 t302 t303 t304 t305 t306) = some r := by rw [if_pos rfl] at H; exact H
        clear H
        have H := H1
        clear H1
        have H' := Aside0.mk H
        clear H
        try go_wp2
        have n0_ := Aside0.mk (blk_drew BK265.out)
        have n1_ := Aside0.mk (blk_drew BK275.out)
        have n2_ := Aside0.mk (blk_drew BK284.out)
        have n3_ := Aside0.mk (below_drew1 HB.out)
        clear BK265
        clear BK275
        clear BK284
        clear HB
        have BK265 := n0_
        have BK275 := n1_
        have BK284 := n2_
        have HB := n3_
        clear n0_ n1_ n2_ n3_
        have p285 : 0 ≤ (x7_2 : Int) := of_decide_eq_true (by first | (with_reducible assumption) | assumption)
        have q285 : x7_2 < (l1.length : Int) := of_decide_eq_true (by first | (with_reducible assumption) | assumption)
        obtain ⟨ad285, e285, hx285_0, hx285_1, hx285_2, hx285_3, hx285_4, hx285_5, hx285_6⟩ := at_T27 HR1.out x7_2 p285 q285
        have hw285_6 := hx285_6
        have hw285_5 := hx285_5
        have hw285_4 := hx285_4
        have hw285_3 := hx285_3
        have hw285_2 := hx285_2
        have hw285_1 := hx285_1
        have hw285_0 := hx285_0
        cases e285
        replace hx285_0 := (HB.out.cell (World.block_lt_of_cell? w _ hx285_0)).trans hx285_0
        replace hx285_1 := (HB.out.cell (World.block_lt_of_cell? w _ hx285_1)).trans hx285_1
        replace hx285_2 := (HB.out.cell (World.block_lt_of_cell? w _ hx285_2)).trans hx285_2
        replace hx285_3 := (HB.out.cell (World.block_lt_of_cell? w _ hx285_3)).trans hx285_3
        replace hx285_4 := (HB.out.cell (World.block_lt_of_cell? w _ hx285_4)).trans hx285_4
        replace hx285_5 := (HB.out.cell (World.block_lt_of_cell? w _ hx285_5)).trans hx285_5
        replace hx285_6 := (HB.out.cell (World.block_lt_of_cell? w _ hx285_6)).trans hx285_6
        replace p285 := eq_true p285
        replace q285 := eq_true q285
        refine start_ (n := 13) (S := fun w' => w'.cell? ⟨gb265, 0, none⟩ = some (.int .i64 a0_0) ∧ w'.cell? ⟨gb265, 1, none⟩ = some (.int .i64 a0_1) ∧ w'.cell? ⟨gb275, 0, none⟩ = some (.int .i64 x276000_2) ∧ w'.cell? ⟨gb275, 1, none⟩ = some (.int .i64 x276001_2) ∧ w'.cell? ⟨gb275, 2, none⟩ = some (.int .i64 x276002_2) ∧ w'.cell? ⟨gb275, 3, none⟩ = some (.int .i64 x276003_2) ∧ w'.cell? ⟨gb275, 4, none⟩ = some (.int .i64 x276004_2) ∧ w'.cell? ⟨gb275, 5, none⟩ = some (.int .i64 x276005_2) ∧ w'.cell? ⟨gb275, 6, none⟩ = some (.int .i64 x276006_2) ∧ w'.cell? ⟨gb275, 7, none⟩ = some (.string x276007_2) ∧ w'.cell? (ad285.add ((x7_2).toNat * 7)) = some (.int .i64 ((rd_T27 l1 x7_2).f0)) ∧ w'.cell? ⟨(ad285.add ((x7_2).toNat * 7)).block, (ad285.add ((x7_2).toNat * 7)).off + 1, none⟩ = some (.int .i64 ((rd_T27 l1 x7_2).f1)) ∧ w'.cell? ⟨(ad285.add ((x7_2).toNat * 7)).block, (ad285.add ((x7_2).toNat * 7)).off + 2, none⟩ = some (.int .i64 ((rd_T27 l1 x7_2).f2)) ∧ w'.cell? ⟨(ad285.add ((x7_2).toNat * 7)).block, (ad285.add ((x7_2).toNat * 7)).off + 3, none⟩ = some (.int .i64 ((rd_T27 l1 x7_2).f3)) ∧ w'.cell? ⟨(ad285.add ((x7_2).toNat * 7)).block, (ad285.add ((x7_2).toNat * 7)).off + 4, none⟩ = some (.int .i64 ((rd_T27 l1 x7_2).f4)) ∧ w'.cell? ⟨(ad285.add ((x7_2).toNat * 7)).block, (ad285.add ((x7_2).toNat * 7)).off + 5, none⟩ = some (.string ((rd_T27 l1 x7_2).f5)) ∧ w'.cell? ⟨(ad285.add ((x7_2).toNat * 7)).block, (ad285.add ((x7_2).toNat * 7)).off + 6, none⟩ = some (.int .i64 ((rd_T27 l1 x7_2).f6))) (ds := []) #[false, false, false, false, false, false, false, false, false, false, false, false, false] (by kernel_rfl) rfl rfl ⟨(blk_cell BK265.out 0).trans rfl, (blk_cell BK265.out 1).trans rfl, (blk_cell BK275.out 0).trans rfl, (blk_cell BK275.out 1).trans rfl, (blk_cell BK275.out 2).trans rfl, (blk_cell BK275.out 3).trans rfl, (blk_cell BK275.out 4).trans rfl, (blk_cell BK275.out 5).trans rfl, (blk_cell BK275.out 6).trans rfl, (blk_cell BK275.out 7).trans rfl, ((HB.out.cell (World.block_lt_of_cell? w _ hw285_0)).trans hw285_0), ((HB.out.cell (World.block_lt_of_cell? w _ hw285_1)).trans hw285_1), ((HB.out.cell (World.block_lt_of_cell? w _ hw285_2)).trans hw285_2), ((HB.out.cell (World.block_lt_of_cell? w _ hw285_3)).trans hw285_3), ((HB.out.cell (World.block_lt_of_cell? w _ hw285_4)).trans hw285_4), ((HB.out.cell (World.block_lt_of_cell? w _ hw285_5)).trans hw285_5), ((HB.out.cell (World.block_lt_of_cell? w _ hw285_6)).trans hw285_6)⟩ (fun hHeld => ?_); refine with_tabW signalbenchlaw20_ScrambleDecodes.tab8 signalbenchlaw20_ScrambleDecodes.bits8 (fun HT_ HW_ => ?_)
        generalize wr.drew = w27 at BK265 BK275 BK284 HB hx285_0 hx285_1 hx285_2 hx285_3 hx285_4 hx285_5 hx285_6 hHeld ⊢
        refine pstep 2 (some 29) #[false, false, true, false, false, false, false, false, false, false, false, false, false] HT_.out ?_
        refine pstep 3 (some 30) #[false, false, true, true, false, false, false, false, false, false, false, false, false] HT_.out ?_
        refine pstep 4 (some 31) #[false, false, true, true, true, false, false, false, false, false, false, false, false] HT_.out ?_
        refine take_ (i := 0) (N := some 27) (v := ?_) (a' := ?_) #[true, false, true, true, true, false, false, false, false, false, false, false, false] rfl rfl (take_ofW HT_.out HW_.out (by kernel_rfl)) (fun _ _ _ h => h) (Or.inl ⟨by rfl, ?_⟩) hHeld ?_ ?_
        rotate_left
        ·rintro w' ⟨s0, s1, s2, s3, s4, s5, s6, s7, s8, s9, s10, s11, s12, s13, s14, s15, s16⟩
         go_simp
         with_reducible rfl
        rotate_left
        ·simp only [Act.put, nrm]
         rfl
        refine take_ (i := 1) (N := some 28) (v := ?_) (a' := ?_) #[true, true, true, true, true, false, false, false, false, false, false, false, false] rfl rfl (take_ofW HT_.out HW_.out (by kernel_rfl)) (fun _ _ _ h => h) (Or.inl ⟨by rfl, ?_⟩) hHeld ?_ ?_
        rotate_left
        ·rintro w' ⟨s0, s1, s2, s3, s4, s5, s6, s7, s8, s9, s10, s11, s12, s13, s14, s15, s16⟩
         go_simp
         with_reducible rfl
        rotate_left
        ·simp only [Act.put, nrm]
         rfl
        refine take_ (i := 5) (N := some 32) (v := ?_) (a' := ?_) #[true, true, true, true, true, true, false, false, false, false, false, false, false] rfl rfl (take_ofW HT_.out HW_.out (by kernel_rfl)) (fun _ _ _ h => h) (Or.inl ⟨by rfl, ?_⟩) hHeld ?_ ?_
        rotate_left
        ·rintro w' ⟨s0, s1, s2, s3, s4, s5, s6, s7, s8, s9, s10, s11, s12, s13, s14, s15, s16⟩
         go_simp
         with_reducible rfl
        rotate_left
        ·simp only [Act.put, nrm]
         rfl
        refine join_ (σ := Value × Nat) 2 #[true, true, true, true, true, true, true, true, true, true, true, false, false] (fun s_ => [(33, .tuple #[.agg #[.int .i64 t286, .int .i64 t287, .int .i64 t288, .int .i64 t289, .int .i64 t290, .int .i64 t291, .int .i64 t292, .string t293], s_.1]), (8, .pointer (some ⟨s_.2, 0, none⟩)), (26, .tuple #[.agg #[.int .i64 t286, .int .i64 t287, .int .i64 t288, .int .i64 t289, .int .i64 t290, .int .i64 t291, .int .i64 t292, .string t293], s_.1]), (34, .agg #[.int .i64 t286, .int .i64 t287, .int .i64 t288, .int .i64 t289, .int .i64 t290, .int .i64 t291, .int .i64 t292, .string t293]), (35, s_.1)]) (fun s_ w' => (w'.cell? ⟨gb265, 0, none⟩ = some (.int .i64 a0_0) ∧ w'.cell? ⟨gb265, 1, none⟩ = some (.int .i64 a0_1) ∧ w'.cell? ⟨gb275, 0, none⟩ = some (.int .i64 x276000_2) ∧ w'.cell? ⟨gb275, 1, none⟩ = some (.int .i64 x276001_2) ∧ w'.cell? ⟨gb275, 2, none⟩ = some (.int .i64 x276002_2) ∧ w'.cell? ⟨gb275, 3, none⟩ = some (.int .i64 x276003_2) ∧ w'.cell? ⟨gb275, 4, none⟩ = some (.int .i64 x276004_2) ∧ w'.cell? ⟨gb275, 5, none⟩ = some (.int .i64 x276005_2) ∧ w'.cell? ⟨gb275, 6, none⟩ = some (.int .i64 x276006_2) ∧ w'.cell? ⟨gb275, 7, none⟩ = some (.string x276007_2) ∧ w'.cell? (ad285.add ((x7_2).toNat * 7)) = some (.int .i64 ((rd_T27 l1 x7_2).f0)) ∧ w'.cell? ⟨(ad285.add ((x7_2).toNat * 7)).block, (ad285.add ((x7_2).toNat * 7)).off + 1, none⟩ = some (.int .i64 ((rd_T27 l1 x7_2).f1)) ∧ w'.cell? ⟨(ad285.add ((x7_2).toNat * 7)).block, (ad285.add ((x7_2).toNat * 7)).off + 2, none⟩ = some (.int .i64 ((rd_T27 l1 x7_2).f2)) ∧ w'.cell? ⟨(ad285.add ((x7_2).toNat * 7)).block, (ad285.add ((x7_2).toNat * 7)).off + 3, none⟩ = some (.int .i64 ((rd_T27 l1 x7_2).f3)) ∧ w'.cell? ⟨(ad285.add ((x7_2).toNat * 7)).block, (ad285.add ((x7_2).toNat * 7)).off + 4, none⟩ = some (.int .i64 ((rd_T27 l1 x7_2).f4)) ∧ w'.cell? ⟨(ad285.add ((x7_2).toNat * 7)).block, (ad285.add ((x7_2).toNat * 7)).off + 5, none⟩ = some (.string ((rd_T27 l1 x7_2).f5)) ∧ w'.cell? ⟨(ad285.add ((x7_2).toNat * 7)).block, (ad285.add ((x7_2).toNat * 7)).off + 6, none⟩ = some (.int .i64 ((rd_T27 l1 x7_2).f6))) ∧ (Kd.R k27 27 w' w.heap.size (fun _ => True) s_.1 t294) ∧ (w'.heap[gb265]? = some (.cells #[.int .i64 a0_0, .int .i64 a0_1] 23 (0, 0))) ∧ (w'.heap[gb275]? = some (.cells #[.int .i64 x276000_2, .int .i64 x276001_2, .int .i64 x276002_2, .int .i64 x276003_2, .int .i64 x276004_2, .int .i64 x276005_2, .int .i64 x276006_2, .string x276007_2] 25 (0, 0))) ∧ (w'.heap[gb284]? = some (.cells #[.int .i64 x285000_2, .int .i64 x285001_2, .int .i64 x285002_2, .int .i64 x285003_2, .int .i64 x285004_2, .int .i64 x285005_2, .int .i64 x285006_2, .string x285007_2] 25 (0, 0))) ∧ (w'.heap[s_.2]? = some (.cells #[.int .i64 0, .int .i64 0, .int .i64 0, .int .i64 0, .int .i64 0, .int .i64 0, .int .i64 0, .string (⟨#[]⟩ : ByteArray)] 25 (0, 0))) ∧ (w.heap.size ≤ s_.2) ∧ (w.heap.size ≤ s_.2) ∧ (gb265 ≠ s_.2) ∧ (s_.2 ≠ gb265) ∧ (gb275 ≠ s_.2) ∧ (s_.2 ≠ gb275) ∧ (gb284 ≠ s_.2) ∧ (s_.2 ≠ gb284) ∧ (Below w.heap.size w w')) ?_ ?_
        rotate_left
        ·intro hCont
         refine two_ (i := 6) (j := 10) (Ni := some 33) (Nj := some 8) #[true, true, true, true, true, true, true, false, false, false, false, false, false] #[true, true, true, true, true, true, false, false, false, false, true, false, false] rfl rfl rfl rfl (two_of HT_.out (by kernel_rfl)) (by decide) (by decide) (fun K hK => ?_) (fun K hK => ?_)
         ·skip
          refine goes_ Try.func12 (by kernel_rfl) rfl #[.agg #[.int .i64 a0_0, .int .i64 a0_1], .agg #[.int .i64 x276000_2, .int .i64 x276001_2, .int .i64 x276002_2, .int .i64 x276003_2, .int .i64 x276004_2, .int .i64 x276005_2, .int .i64 x276006_2, .string x276007_2], .agg #[.int .i64 ((rd_T27 l1 x7_2).f0), .int .i64 ((rd_T27 l1 x7_2).f1), .int .i64 ((rd_T27 l1 x7_2).f2), .int .i64 ((rd_T27 l1 x7_2).f3), .int .i64 ((rd_T27 l1 x7_2).f4), .string ((rd_T27 l1 x7_2).f5), .int .i64 ((rd_T27 l1 x7_2).f6)]] (by rfl) rfl rfl (by (try simp only [List.map_toArray, List.map_cons, List.map_nil]); first | done | rfl | (simp only [List.length_drop, List.length_take]; rfl)) ?_
          with_reducible refine (scramble_Step.calls k2 a0_0 a0_1 x276000_2 x276001_2 x276002_2 x276003_2 x276004_2 x276005_2 x276006_2 x276007_2 ((rd_T27 l1 x7_2).f0) ((rd_T27 l1 x7_2).f1) ((rd_T27 l1 x7_2).f2) ((rd_T27 l1 x7_2).f3) ((rd_T27 l1 x7_2).f4) ((rd_T27 l1 x7_2).f5) ((rd_T27 l1 x7_2).f6) t286 t287 t288 t289 t290 t291 t292 t293 t294 _ A23.out).mono ?_
          rintro e w28 ⟨v295, rfl, ho0, hb⟩
          refine ⟨_, rfl, ?_⟩
          have n0_ := Aside0.mk (Kd.R_lower ho0 (below_size (hbw HB.out)))
          have n1_ := Aside0.mk (blkb BK265.out hb)
          have n2_ := Aside0.mk (blkb BK275.out hb)
          have n3_ := Aside0.mk (blkb BK284.out hb)
          have n4_ := Aside0.mk (below_step (hbw HB.out) hb)
          clear BK265
          clear BK275
          clear BK284
          clear HB
          have HO296 := n0_
          have BK265 := n1_
          have BK275 := n2_
          have BK284 := n3_
          have HB := n4_
          clear n0_ n1_ n2_ n3_ n4_
          (try clear hb)
          (try clear hb2)
          (try clear hk)
          (try clear hi)
          (try clear ho0)
          refine hK.out _ _ ⟨(blk_cell BK265.out 0).trans rfl, (blk_cell BK265.out 1).trans rfl, (blk_cell BK275.out 0).trans rfl, (blk_cell BK275.out 1).trans rfl, (blk_cell BK275.out 2).trans rfl, (blk_cell BK275.out 3).trans rfl, (blk_cell BK275.out 4).trans rfl, (blk_cell BK275.out 5).trans rfl, (blk_cell BK275.out 6).trans rfl, (blk_cell BK275.out 7).trans rfl, ((HB.out.cell (World.block_lt_of_cell? w _ hw285_0)).trans hw285_0), ((HB.out.cell (World.block_lt_of_cell? w _ hw285_1)).trans hw285_1), ((HB.out.cell (World.block_lt_of_cell? w _ hw285_2)).trans hw285_2), ((HB.out.cell (World.block_lt_of_cell? w _ hw285_3)).trans hw285_3), ((HB.out.cell (World.block_lt_of_cell? w _ hw285_4)).trans hw285_4), ((HB.out.cell (World.block_lt_of_cell? w _ hw285_5)).trans hw285_5), ((HB.out.cell (World.block_lt_of_cell? w _ hw285_6)).trans hw285_6)⟩ (fun hHeld => ?_)
          clear hK K
          refine norm_ (a' := ?_) ?_ ?_
          rotate_left
          ·show Act.put _ (some 33) _ = _
           simp only [Act.put, nrm]
           rfl
          refine pstep 7 (some 26) #[true, true, true, true, true, true, true, true, false, false, false, false, false] HT_.out ?_
          refine pstep 8 (some 34) #[true, true, true, true, true, true, true, true, true, false, false, false, false] HT_.out ?_
          refine pstep 9 (some 35) #[true, true, true, true, true, true, true, true, true, true, false, false, false] HT_.out ?_
          refine one_ (i := 10) (N := some 8) #[true, true, true, true, true, true, true, true, true, true, true, false, false] rfl rfl (one_of HT_.out (by kernel_rfl)) (by decide) (fun K hK => ?_)
          refine box_step ?hg (N := 8) ?hd (cs := #[.int .i64 0, .int .i64 0, .int .i64 0, .int .i64 0, .int .i64 0, .int .i64 0, .int .i64 0, .string (⟨#[]⟩ : ByteArray)]) (t := 25) ?hr ?_; (case hd => rfl); (case hg => rfl); (case hr => first | (go_simp; done) | (go_simp; rfl))
          intro gb297 hg w29 hbox hb
          have n0_ := Aside0.mk (Kd.R_below (rkw HO296.out) hb)
          have n1_ := Aside0.mk (blkb BK265.out hb)
          have n2_ := Aside0.mk (blkb BK275.out hb)
          have n3_ := Aside0.mk (blkb BK284.out hb)
          have n4_ := Aside0.mk (below_step (hbw HB.out) hb)
          have n5_ := Aside0.mk (hbox)
          have n6_ := Aside0.mk ((by rw [hg]; exact (below_size (hbw HB.out)) : w.heap.size ≤ gb297))
          have n7_ := Aside0.mk ((by rw [hg]; exact (below_size (hbw HB.out)) : w.heap.size ≤ gb297))
          have n8_ := Aside0.mk ((by rw [hg]; exact Nat.ne_of_lt (blkl BK265.out) : gb265 ≠ gb297))
          have n9_ := Aside0.mk ((by rw [hg]; exact Nat.ne_of_gt (blkl BK265.out) : gb297 ≠ gb265))
          have n10_ := Aside0.mk ((by rw [hg]; exact Nat.ne_of_lt (blkl BK275.out) : gb275 ≠ gb297))
          have n11_ := Aside0.mk ((by rw [hg]; exact Nat.ne_of_gt (blkl BK275.out) : gb297 ≠ gb275))
          have n12_ := Aside0.mk ((by rw [hg]; exact Nat.ne_of_lt (blkl BK284.out) : gb284 ≠ gb297))
          have n13_ := Aside0.mk ((by rw [hg]; exact Nat.ne_of_gt (blkl BK284.out) : gb297 ≠ gb284))
          clear HO296
          clear BK265
          clear BK275
          clear BK284
          clear HB
          have HO296 := n0_
          have BK265 := n1_
          have BK275 := n2_
          have BK284 := n3_
          have HB := n4_
          have BK297 := n5_
          have GW297 := n6_
          have GE297 := n7_
          have NB265_297 := n8_
          have NB297_265 := n9_
          have NB275_297 := n10_
          have NB297_275 := n11_
          have NB284_297 := n12_
          have NB297_284 := n13_
          clear n0_ n1_ n2_ n3_ n4_ n5_ n6_ n7_ n8_ n9_ n10_ n11_ n12_ n13_
          clear hb hbox hg
          refine hK.out _ _ ⟨(blk_cell BK265.out 0).trans rfl, (blk_cell BK265.out 1).trans rfl, (blk_cell BK275.out 0).trans rfl, (blk_cell BK275.out 1).trans rfl, (blk_cell BK275.out 2).trans rfl, (blk_cell BK275.out 3).trans rfl, (blk_cell BK275.out 4).trans rfl, (blk_cell BK275.out 5).trans rfl, (blk_cell BK275.out 6).trans rfl, (blk_cell BK275.out 7).trans rfl, ((HB.out.cell (World.block_lt_of_cell? w _ hw285_0)).trans hw285_0), ((HB.out.cell (World.block_lt_of_cell? w _ hw285_1)).trans hw285_1), ((HB.out.cell (World.block_lt_of_cell? w _ hw285_2)).trans hw285_2), ((HB.out.cell (World.block_lt_of_cell? w _ hw285_3)).trans hw285_3), ((HB.out.cell (World.block_lt_of_cell? w _ hw285_4)).trans hw285_4), ((HB.out.cell (World.block_lt_of_cell? w _ hw285_5)).trans hw285_5), ((HB.out.cell (World.block_lt_of_cell? w _ hw285_6)).trans hw285_6)⟩ (fun hHeld => ?_)
          clear hK K
          refine norm_ (a' := ?_) ?_ ?_
          rotate_left
          ·show Act.put _ (some 8) _ = _
           simp only [Act.put, nrm]
           rfl
          exact norm_ (by simp only [putAll, Act.put, List.setIfInBounds_toArray, List.set_cons_zero, List.set_cons_succ]) (hCont (v295, gb297) _ ⟨hHeld, (rkw HO296.out), (bkw BK265.out), (bkw BK275.out), (bkw BK284.out), (bkw BK297.out), GW297.out, GE297.out, NB265_297.out, NB297_265.out, NB275_297.out, NB297_275.out, NB284_297.out, NB297_284.out, (hbw HB.out)⟩)
         ·skip
          refine box_step ?hg (N := 8) ?hd (cs := #[.int .i64 0, .int .i64 0, .int .i64 0, .int .i64 0, .int .i64 0, .int .i64 0, .int .i64 0, .string (⟨#[]⟩ : ByteArray)]) (t := 25) ?hr ?_; (case hd => rfl); (case hg => rfl); (case hr => first | (go_simp; done) | (go_simp; rfl))
          intro gb297 hg w28 hbox hb
          have n0_ := Aside0.mk (blkb BK265.out hb)
          have n1_ := Aside0.mk (blkb BK275.out hb)
          have n2_ := Aside0.mk (blkb BK284.out hb)
          have n3_ := Aside0.mk (below_step (hbw HB.out) hb)
          have n4_ := Aside0.mk (hbox)
          have n5_ := Aside0.mk ((by rw [hg]; exact (below_size (hbw HB.out)) : w.heap.size ≤ gb297))
          have n6_ := Aside0.mk ((by rw [hg]; exact (below_size (hbw HB.out)) : w.heap.size ≤ gb297))
          have n7_ := Aside0.mk ((by rw [hg]; exact Nat.ne_of_lt (blkl BK265.out) : gb265 ≠ gb297))
          have n8_ := Aside0.mk ((by rw [hg]; exact Nat.ne_of_gt (blkl BK265.out) : gb297 ≠ gb265))
          have n9_ := Aside0.mk ((by rw [hg]; exact Nat.ne_of_lt (blkl BK275.out) : gb275 ≠ gb297))
          have n10_ := Aside0.mk ((by rw [hg]; exact Nat.ne_of_gt (blkl BK275.out) : gb297 ≠ gb275))
          have n11_ := Aside0.mk ((by rw [hg]; exact Nat.ne_of_lt (blkl BK284.out) : gb284 ≠ gb297))
          have n12_ := Aside0.mk ((by rw [hg]; exact Nat.ne_of_gt (blkl BK284.out) : gb297 ≠ gb284))
          clear BK265
          clear BK275
          clear BK284
          clear HB
          have BK265 := n0_
          have BK275 := n1_
          have BK284 := n2_
          have HB := n3_
          have BK297 := n4_
          have GW297 := n5_
          have GE297 := n6_
          have NB265_297 := n7_
          have NB297_265 := n8_
          have NB275_297 := n9_
          have NB297_275 := n10_
          have NB284_297 := n11_
          have NB297_284 := n12_
          clear n0_ n1_ n2_ n3_ n4_ n5_ n6_ n7_ n8_ n9_ n10_ n11_ n12_
          clear hb hbox hg
          refine hK.out _ _ ⟨(blk_cell BK265.out 0).trans rfl, (blk_cell BK265.out 1).trans rfl, (blk_cell BK275.out 0).trans rfl, (blk_cell BK275.out 1).trans rfl, (blk_cell BK275.out 2).trans rfl, (blk_cell BK275.out 3).trans rfl, (blk_cell BK275.out 4).trans rfl, (blk_cell BK275.out 5).trans rfl, (blk_cell BK275.out 6).trans rfl, (blk_cell BK275.out 7).trans rfl, ((HB.out.cell (World.block_lt_of_cell? w _ hw285_0)).trans hw285_0), ((HB.out.cell (World.block_lt_of_cell? w _ hw285_1)).trans hw285_1), ((HB.out.cell (World.block_lt_of_cell? w _ hw285_2)).trans hw285_2), ((HB.out.cell (World.block_lt_of_cell? w _ hw285_3)).trans hw285_3), ((HB.out.cell (World.block_lt_of_cell? w _ hw285_4)).trans hw285_4), ((HB.out.cell (World.block_lt_of_cell? w _ hw285_5)).trans hw285_5), ((HB.out.cell (World.block_lt_of_cell? w _ hw285_6)).trans hw285_6)⟩ (fun hHeld => ?_)
          clear hK K
          refine norm_ (a' := ?_) ?_ ?_
          rotate_left
          ·show Act.put _ (some 8) _ = _
           simp only [Act.put, nrm]
           rfl
          refine one_ (i := 6) (N := some 33) #[true, true, true, true, true, true, true, false, false, false, true, false, false] rfl rfl (one_of HT_.out (by kernel_rfl)) (by decide) (fun K hK => ?_)
          refine goes_ Try.func12 (by kernel_rfl) rfl #[.agg #[.int .i64 a0_0, .int .i64 a0_1], .agg #[.int .i64 x276000_2, .int .i64 x276001_2, .int .i64 x276002_2, .int .i64 x276003_2, .int .i64 x276004_2, .int .i64 x276005_2, .int .i64 x276006_2, .string x276007_2], .agg #[.int .i64 ((rd_T27 l1 x7_2).f0), .int .i64 ((rd_T27 l1 x7_2).f1), .int .i64 ((rd_T27 l1 x7_2).f2), .int .i64 ((rd_T27 l1 x7_2).f3), .int .i64 ((rd_T27 l1 x7_2).f4), .string ((rd_T27 l1 x7_2).f5), .int .i64 ((rd_T27 l1 x7_2).f6)]] (by rfl) rfl rfl (by (try simp only [List.map_toArray, List.map_cons, List.map_nil]); first | done | rfl | (simp only [List.length_drop, List.length_take]; rfl)) ?_
          with_reducible refine (scramble_Step.calls k2 a0_0 a0_1 x276000_2 x276001_2 x276002_2 x276003_2 x276004_2 x276005_2 x276006_2 x276007_2 ((rd_T27 l1 x7_2).f0) ((rd_T27 l1 x7_2).f1) ((rd_T27 l1 x7_2).f2) ((rd_T27 l1 x7_2).f3) ((rd_T27 l1 x7_2).f4) ((rd_T27 l1 x7_2).f5) ((rd_T27 l1 x7_2).f6) t286 t287 t288 t289 t290 t291 t292 t293 t294 _ A23.out).mono ?_
          rintro e w29 ⟨v295, rfl, ho0, hb⟩
          refine ⟨_, rfl, ?_⟩
          have n0_ := Aside0.mk (Kd.R_lower ho0 (below_size (hbw HB.out)))
          have n1_ := Aside0.mk (blkb BK265.out hb)
          have n2_ := Aside0.mk (blkb BK275.out hb)
          have n3_ := Aside0.mk (blkb BK284.out hb)
          have n4_ := Aside0.mk (blkb BK297.out hb)
          have n5_ := Aside0.mk (below_step (hbw HB.out) hb)
          clear BK265
          clear BK275
          clear BK284
          clear BK297
          clear HB
          have HO296 := n0_
          have BK265 := n1_
          have BK275 := n2_
          have BK284 := n3_
          have BK297 := n4_
          have HB := n5_
          clear n0_ n1_ n2_ n3_ n4_ n5_
          (try clear hb)
          (try clear hb2)
          (try clear hk)
          (try clear hi)
          (try clear ho0)
          refine hK.out _ _ ⟨(blk_cell BK265.out 0).trans rfl, (blk_cell BK265.out 1).trans rfl, (blk_cell BK275.out 0).trans rfl, (blk_cell BK275.out 1).trans rfl, (blk_cell BK275.out 2).trans rfl, (blk_cell BK275.out 3).trans rfl, (blk_cell BK275.out 4).trans rfl, (blk_cell BK275.out 5).trans rfl, (blk_cell BK275.out 6).trans rfl, (blk_cell BK275.out 7).trans rfl, ((HB.out.cell (World.block_lt_of_cell? w _ hw285_0)).trans hw285_0), ((HB.out.cell (World.block_lt_of_cell? w _ hw285_1)).trans hw285_1), ((HB.out.cell (World.block_lt_of_cell? w _ hw285_2)).trans hw285_2), ((HB.out.cell (World.block_lt_of_cell? w _ hw285_3)).trans hw285_3), ((HB.out.cell (World.block_lt_of_cell? w _ hw285_4)).trans hw285_4), ((HB.out.cell (World.block_lt_of_cell? w _ hw285_5)).trans hw285_5), ((HB.out.cell (World.block_lt_of_cell? w _ hw285_6)).trans hw285_6)⟩ (fun hHeld => ?_)
          clear hK K
          refine norm_ (a' := ?_) ?_ ?_
          rotate_left
          ·show Act.put _ (some 33) _ = _
           simp only [Act.put, nrm]
           rfl
          refine pstep 7 (some 26) #[true, true, true, true, true, true, true, true, false, false, true, false, false] HT_.out ?_
          refine pstep 8 (some 34) #[true, true, true, true, true, true, true, true, true, false, true, false, false] HT_.out ?_
          refine pstep 9 (some 35) #[true, true, true, true, true, true, true, true, true, true, true, false, false] HT_.out ?_
          exact norm_ (by simp only [putAll, Act.put, List.setIfInBounds_toArray, List.set_cons_zero, List.set_cons_succ]) (hCont (v295, gb297) _ ⟨hHeld, (rkw HO296.out), (bkw BK265.out), (bkw BK275.out), (bkw BK284.out), (bkw BK297.out), GW297.out, GE297.out, NB265_297.out, NB297_265.out, NB275_297.out, NB297_275.out, NB284_297.out, NB297_284.out, (hbw HB.out)⟩)
        rintro ⟨v295, gb297⟩ w30 ⟨hS_, h0_, h1_, h2_, h3_, h4_, h5_, h6_, h7_, h8_, h9_, h10_, h11_, h12_, h13_⟩
        have n0_ : Aside0 (Kd.R k27 27 w30 w.heap.size (fun _ => True) v295 t294) := ⟨h0_⟩
        have n1_ : Aside0 (w30.heap[gb265]? = some (.cells #[.int .i64 a0_0, .int .i64 a0_1] 23 (0, 0))) := ⟨h1_⟩
        have n2_ : Aside0 (w30.heap[gb275]? = some (.cells #[.int .i64 x276000_2, .int .i64 x276001_2, .int .i64 x276002_2, .int .i64 x276003_2, .int .i64 x276004_2, .int .i64 x276005_2, .int .i64 x276006_2, .string x276007_2] 25 (0, 0))) := ⟨h2_⟩
        have n3_ : Aside0 (w30.heap[gb284]? = some (.cells #[.int .i64 x285000_2, .int .i64 x285001_2, .int .i64 x285002_2, .int .i64 x285003_2, .int .i64 x285004_2, .int .i64 x285005_2, .int .i64 x285006_2, .string x285007_2] 25 (0, 0))) := ⟨h3_⟩
        have n4_ : Aside0 (w30.heap[gb297]? = some (.cells #[.int .i64 0, .int .i64 0, .int .i64 0, .int .i64 0, .int .i64 0, .int .i64 0, .int .i64 0, .string (⟨#[]⟩ : ByteArray)] 25 (0, 0))) := ⟨h4_⟩
        have n5_ : Aside0 (w.heap.size ≤ gb297) := ⟨h5_⟩
        have n6_ : Aside0 (w.heap.size ≤ gb297) := ⟨h6_⟩
        have n7_ : Aside0 (gb265 ≠ gb297) := ⟨h7_⟩
        have n8_ : Aside0 (gb297 ≠ gb265) := ⟨h8_⟩
        have n9_ : Aside0 (gb275 ≠ gb297) := ⟨h9_⟩
        have n10_ : Aside0 (gb297 ≠ gb275) := ⟨h10_⟩
        have n11_ : Aside0 (gb284 ≠ gb297) := ⟨h11_⟩
        have n12_ : Aside0 (gb297 ≠ gb284) := ⟨h12_⟩
        have n13_ : Aside0 (Below w.heap.size w w30) := ⟨h13_⟩
        clear BK265
        clear BK275
        clear BK284
        clear HB
        clear h0_ h1_ h2_ h3_ h4_ h5_ h6_ h7_ h8_ h9_ h10_ h11_ h12_ h13_
        have HO296 := n0_
        have BK265 := n1_
        have BK275 := n2_
        have BK284 := n3_
        have BK297 := n4_
        have GW297 := n5_
        have GE297 := n6_
        have NB265_297 := n7_
        have NB297_265 := n8_
        have NB275_297 := n9_
        have NB297_275 := n10_
        have NB284_297 := n11_
        have NB297_284 := n12_
        have HB := n13_
        clear n0_ n1_ n2_ n3_ n4_ n5_ n6_ n7_ n8_ n9_ n10_ n11_ n12_ n13_
        have hHeld : w30.cell? ⟨gb265, 0, none⟩ = some (.int .i64 a0_0) ∧ w30.cell? ⟨gb265, 1, none⟩ = some (.int .i64 a0_1) ∧ w30.cell? ⟨gb275, 0, none⟩ = some (.int .i64 x276000_2) ∧ w30.cell? ⟨gb275, 1, none⟩ = some (.int .i64 x276001_2) ∧ w30.cell? ⟨gb275, 2, none⟩ = some (.int .i64 x276002_2) ∧ w30.cell? ⟨gb275, 3, none⟩ = some (.int .i64 x276003_2) ∧ w30.cell? ⟨gb275, 4, none⟩ = some (.int .i64 x276004_2) ∧ w30.cell? ⟨gb275, 5, none⟩ = some (.int .i64 x276005_2) ∧ w30.cell? ⟨gb275, 6, none⟩ = some (.int .i64 x276006_2) ∧ w30.cell? ⟨gb275, 7, none⟩ = some (.string x276007_2) ∧ w30.cell? (ad285.add ((x7_2).toNat * 7)) = some (.int .i64 ((rd_T27 l1 x7_2).f0)) ∧ w30.cell? ⟨(ad285.add ((x7_2).toNat * 7)).block, (ad285.add ((x7_2).toNat * 7)).off + 1, none⟩ = some (.int .i64 ((rd_T27 l1 x7_2).f1)) ∧ w30.cell? ⟨(ad285.add ((x7_2).toNat * 7)).block, (ad285.add ((x7_2).toNat * 7)).off + 2, none⟩ = some (.int .i64 ((rd_T27 l1 x7_2).f2)) ∧ w30.cell? ⟨(ad285.add ((x7_2).toNat * 7)).block, (ad285.add ((x7_2).toNat * 7)).off + 3, none⟩ = some (.int .i64 ((rd_T27 l1 x7_2).f3)) ∧ w30.cell? ⟨(ad285.add ((x7_2).toNat * 7)).block, (ad285.add ((x7_2).toNat * 7)).off + 4, none⟩ = some (.int .i64 ((rd_T27 l1 x7_2).f4)) ∧ w30.cell? ⟨(ad285.add ((x7_2).toNat * 7)).block, (ad285.add ((x7_2).toNat * 7)).off + 5, none⟩ = some (.string ((rd_T27 l1 x7_2).f5)) ∧ w30.cell? ⟨(ad285.add ((x7_2).toNat * 7)).block, (ad285.add ((x7_2).toNat * 7)).off + 6, none⟩ = some (.int .i64 ((rd_T27 l1 x7_2).f6)) := hS_
        refine norm_ (a' := ?_) ?_ ?_
        rotate_left
        ·simp only [putAll, Act.put, List.setIfInBounds_toArray, List.set_cons_zero, List.set_cons_succ]
         rfl
        refine one_ (i := 11) (N := none) #[true, true, true, true, true, true, true, true, true, true, true, true, false] rfl rfl (one_of HT_.out (by kernel_rfl)) (by decide) (fun K hK => ?_)
        have hs31 : w30.cell? ⟨gb297, 0, none⟩ = some (.int .i64 0) := (blk_cell BK297.out 0).trans rfl
        have hfs31 := blk_frozen BK297.out 0
        have hns31_0 := NB265_297.out
        have hns31_1 := NB275_297.out
        have hns31_2 := NB284_297.out
        have hms31_0 := NB297_265.out
        have hms31_1 := NB297_275.out
        have hms31_2 := NB297_284.out
        have hs32 : w30.cell? ⟨gb297, 1, none⟩ = some (.int .i64 0) := (blk_cell BK297.out 1).trans rfl
        have hfs32 := blk_frozen BK297.out 1
        have hns32_0 := NB265_297.out
        have hns32_1 := NB275_297.out
        have hns32_2 := NB284_297.out
        have hms32_0 := NB297_265.out
        have hms32_1 := NB297_275.out
        have hms32_2 := NB297_284.out
        have hs33 : w30.cell? ⟨gb297, 2, none⟩ = some (.int .i64 0) := (blk_cell BK297.out 2).trans rfl
        have hfs33 := blk_frozen BK297.out 2
        have hns33_0 := NB265_297.out
        have hns33_1 := NB275_297.out
        have hns33_2 := NB284_297.out
        have hms33_0 := NB297_265.out
        have hms33_1 := NB297_275.out
        have hms33_2 := NB297_284.out
        have hs34 : w30.cell? ⟨gb297, 3, none⟩ = some (.int .i64 0) := (blk_cell BK297.out 3).trans rfl
        have hfs34 := blk_frozen BK297.out 3
        have hns34_0 := NB265_297.out
        have hns34_1 := NB275_297.out
        have hns34_2 := NB284_297.out
        have hms34_0 := NB297_265.out
        have hms34_1 := NB297_275.out
        have hms34_2 := NB297_284.out
        have hs35 : w30.cell? ⟨gb297, 4, none⟩ = some (.int .i64 0) := (blk_cell BK297.out 4).trans rfl
        have hfs35 := blk_frozen BK297.out 4
        have hns35_0 := NB265_297.out
        have hns35_1 := NB275_297.out
        have hns35_2 := NB284_297.out
        have hms35_0 := NB297_265.out
        have hms35_1 := NB297_275.out
        have hms35_2 := NB297_284.out
        have hs36 : w30.cell? ⟨gb297, 5, none⟩ = some (.int .i64 0) := (blk_cell BK297.out 5).trans rfl
        have hfs36 := blk_frozen BK297.out 5
        have hns36_0 := NB265_297.out
        have hns36_1 := NB275_297.out
        have hns36_2 := NB284_297.out
        have hms36_0 := NB297_265.out
        have hms36_1 := NB297_275.out
        have hms36_2 := NB297_284.out
        have hs37 : w30.cell? ⟨gb297, 6, none⟩ = some (.int .i64 0) := (blk_cell BK297.out 6).trans rfl
        have hfs37 := blk_frozen BK297.out 6
        have hns37_0 := NB265_297.out
        have hns37_1 := NB275_297.out
        have hns37_2 := NB284_297.out
        have hms37_0 := NB297_265.out
        have hms37_1 := NB297_275.out
        have hms37_2 := NB297_284.out
        have hs38 : w30.cell? ⟨gb297, 7, none⟩ = some (.string (⟨#[]⟩ : ByteArray)) := (blk_cell BK297.out 7).trans rfl
        have hfs38 := blk_frozen BK297.out 7
        have hns38_0 := NB265_297.out
        have hns38_1 := NB275_297.out
        have hns38_2 := NB284_297.out
        have hms38_0 := NB297_265.out
        have hms38_1 := NB297_275.out
        have hms38_2 := NB297_284.out
        refine skip_ (w1 := ?_) (by rfl) rfl ?_ ?_
        rotate_left
        ·go_simp
         rfl
        refine hK.out _ _ ⟨((far8 (g := gb297) NB265_297.out).trans (hHeld.1)), ((far8 (g := gb297) NB265_297.out).trans (hHeld.2.1)), ((far8 (g := gb297) NB275_297.out).trans (hHeld.2.2.1)), ((far8 (g := gb297) NB275_297.out).trans (hHeld.2.2.2.1)), ((far8 (g := gb297) NB275_297.out).trans (hHeld.2.2.2.2.1)), ((far8 (g := gb297) NB275_297.out).trans (hHeld.2.2.2.2.2.1)), ((far8 (g := gb297) NB275_297.out).trans (hHeld.2.2.2.2.2.2.1)), ((far8 (g := gb297) NB275_297.out).trans (hHeld.2.2.2.2.2.2.2.1)), ((far8 (g := gb297) NB275_297.out).trans (hHeld.2.2.2.2.2.2.2.2.1)), ((far8 (g := gb297) NB275_297.out).trans (hHeld.2.2.2.2.2.2.2.2.2.1)), ((far8 (g := gb297) (by have e_ := Nat.ne_of_lt (Nat.lt_of_lt_of_le (by have := World.block_lt_of_cell? _ _ hw285_0; first | rwa [add_block] at this | exact this) GW297.out); first | exact e_ | (rw [add_block]; exact e_) | (show (Addr.add _ _).block ≠ _; rw [add_block]; exact e_) | (dsimp only; exact e_))).trans (hHeld.2.2.2.2.2.2.2.2.2.2.1)), ((far8 (g := gb297) (by have e_ := Nat.ne_of_lt (Nat.lt_of_lt_of_le (by have := World.block_lt_of_cell? _ _ hw285_1; first | rwa [add_block] at this | exact this) GW297.out); first | exact e_ | (rw [add_block]; exact e_) | (show (Addr.add _ _).block ≠ _; rw [add_block]; exact e_) | (dsimp only; exact e_))).trans (hHeld.2.2.2.2.2.2.2.2.2.2.2.1)), ((far8 (g := gb297) (by have e_ := Nat.ne_of_lt (Nat.lt_of_lt_of_le (by have := World.block_lt_of_cell? _ _ hw285_2; first | rwa [add_block] at this | exact this) GW297.out); first | exact e_ | (rw [add_block]; exact e_) | (show (Addr.add _ _).block ≠ _; rw [add_block]; exact e_) | (dsimp only; exact e_))).trans (hHeld.2.2.2.2.2.2.2.2.2.2.2.2.1)), ((far8 (g := gb297) (by have e_ := Nat.ne_of_lt (Nat.lt_of_lt_of_le (by have := World.block_lt_of_cell? _ _ hw285_3; first | rwa [add_block] at this | exact this) GW297.out); first | exact e_ | (rw [add_block]; exact e_) | (show (Addr.add _ _).block ≠ _; rw [add_block]; exact e_) | (dsimp only; exact e_))).trans (hHeld.2.2.2.2.2.2.2.2.2.2.2.2.2.1)), ((far8 (g := gb297) (by have e_ := Nat.ne_of_lt (Nat.lt_of_lt_of_le (by have := World.block_lt_of_cell? _ _ hw285_4; first | rwa [add_block] at this | exact this) GW297.out); first | exact e_ | (rw [add_block]; exact e_) | (show (Addr.add _ _).block ≠ _; rw [add_block]; exact e_) | (dsimp only; exact e_))).trans (hHeld.2.2.2.2.2.2.2.2.2.2.2.2.2.2.1)), ((far8 (g := gb297) (by have e_ := Nat.ne_of_lt (Nat.lt_of_lt_of_le (by have := World.block_lt_of_cell? _ _ hw285_5; first | rwa [add_block] at this | exact this) GW297.out); first | exact e_ | (rw [add_block]; exact e_) | (show (Addr.add _ _).block ≠ _; rw [add_block]; exact e_) | (dsimp only; exact e_))).trans (hHeld.2.2.2.2.2.2.2.2.2.2.2.2.2.2.2.1)), ((far8 (g := gb297) (by have e_ := Nat.ne_of_lt (Nat.lt_of_lt_of_le (by have := World.block_lt_of_cell? _ _ hw285_6; first | rwa [add_block] at this | exact this) GW297.out); first | exact e_ | (rw [add_block]; exact e_) | (show (Addr.add _ _).block ≠ _; rw [add_block]; exact e_) | (dsimp only; exact e_))).trans (hHeld.2.2.2.2.2.2.2.2.2.2.2.2.2.2.2.2))⟩ (fun hHeld => ?_)
        clear hK K
        refine pstep 12 (some 9) #[true, true, true, true, true, true, true, true, true, true, true, true, true] HT_.out ?_
        refine done_ (done_of HT_.out (by kernel_rfl)) ?_
        try go_wp2
        have n0_ : Aside0 (Kd.R k27 27 ((((((((w30.setCell ⟨gb297, 0, none⟩ (.int .i64 t286)).setCell ⟨gb297, 1, none⟩ (.int .i64 t287)).setCell ⟨gb297, 2, none⟩ (.int .i64 t288)).setCell ⟨gb297, 3, none⟩ (.int .i64 t289)).setCell ⟨gb297, 4, none⟩ (.int .i64 t290)).setCell ⟨gb297, 5, none⟩ (.int .i64 t291)).setCell ⟨gb297, 6, none⟩ (.int .i64 t292)).setCell ⟨gb297, 7, none⟩ (.string t293)) w.heap.size (fun _ => True) v295 t294) := ⟨by (with_reducible repeat (first | apply Kd.R_alloc | apply Kd.R_drewN | apply Kd.R_drew)); exact Kd.R_mono (Kd.R_far (p := ⟨gb297, 7, none⟩) (Kd.R_far (p := ⟨gb297, 6, none⟩) (Kd.R_far (p := ⟨gb297, 5, none⟩) (Kd.R_far (p := ⟨gb297, 4, none⟩) (Kd.R_far (p := ⟨gb297, 3, none⟩) (Kd.R_far (p := ⟨gb297, 2, none⟩) (Kd.R_far (p := ⟨gb297, 1, none⟩) (Kd.R_far (p := ⟨gb297, 0, none⟩) (Kd.R_types HO296.out BK297.out (by decide)) (fun _ hk => hk.2) (.int .i64 t286)) (fun _ hk => hk.2) (.int .i64 t287)) (fun _ hk => hk.2) (.int .i64 t288)) (fun _ hk => hk.2) (.int .i64 t289)) (fun _ hk => hk.2) (.int .i64 t290)) (fun _ hk => hk.2) (.int .i64 t291)) (fun _ hk => hk.2) (.int .i64 t292)) (fun _ hk => hk.2) (.string t293)) (fun _ hk => trivial)⟩
        have n1_ : Aside0 (((((((((w30.setCell ⟨gb297, 0, none⟩ (.int .i64 t286)).setCell ⟨gb297, 1, none⟩ (.int .i64 t287)).setCell ⟨gb297, 2, none⟩ (.int .i64 t288)).setCell ⟨gb297, 3, none⟩ (.int .i64 t289)).setCell ⟨gb297, 4, none⟩ (.int .i64 t290)).setCell ⟨gb297, 5, none⟩ (.int .i64 t291)).setCell ⟨gb297, 6, none⟩ (.int .i64 t292)).setCell ⟨gb297, 7, none⟩ (.string t293)).heap[gb265]? = some (.cells #[.int .i64 a0_0, .int .i64 a0_1] 23 (0, 0))) := ⟨by (with_reducible repeat (first | refine blk_drewN ?_ _ | refine blk_drew ?_ | refine blk_alloc ?_ _)); refine blk_far ?_ NB265_297.out _; (with_reducible repeat (first | refine blk_drewN ?_ _ | refine blk_drew ?_ | refine blk_alloc ?_ _)); refine blk_far ?_ NB265_297.out _; (with_reducible repeat (first | refine blk_drewN ?_ _ | refine blk_drew ?_ | refine blk_alloc ?_ _)); refine blk_far ?_ NB265_297.out _; (with_reducible repeat (first | refine blk_drewN ?_ _ | refine blk_drew ?_ | refine blk_alloc ?_ _)); refine blk_far ?_ NB265_297.out _; (with_reducible repeat (first | refine blk_drewN ?_ _ | refine blk_drew ?_ | refine blk_alloc ?_ _)); refine blk_far ?_ NB265_297.out _; (with_reducible repeat (first | refine blk_drewN ?_ _ | refine blk_drew ?_ | refine blk_alloc ?_ _)); refine blk_far ?_ NB265_297.out _; (with_reducible repeat (first | refine blk_drewN ?_ _ | refine blk_drew ?_ | refine blk_alloc ?_ _)); refine blk_far ?_ NB265_297.out _; (with_reducible repeat (first | refine blk_drewN ?_ _ | refine blk_drew ?_ | refine blk_alloc ?_ _)); refine blk_far ?_ NB265_297.out _; (with_reducible repeat (first | refine blk_drewN ?_ _ | refine blk_drew ?_ | refine blk_alloc ?_ _)); exact BK265.out⟩
        have n2_ : Aside0 (((((((((w30.setCell ⟨gb297, 0, none⟩ (.int .i64 t286)).setCell ⟨gb297, 1, none⟩ (.int .i64 t287)).setCell ⟨gb297, 2, none⟩ (.int .i64 t288)).setCell ⟨gb297, 3, none⟩ (.int .i64 t289)).setCell ⟨gb297, 4, none⟩ (.int .i64 t290)).setCell ⟨gb297, 5, none⟩ (.int .i64 t291)).setCell ⟨gb297, 6, none⟩ (.int .i64 t292)).setCell ⟨gb297, 7, none⟩ (.string t293)).heap[gb275]? = some (.cells #[.int .i64 x276000_2, .int .i64 x276001_2, .int .i64 x276002_2, .int .i64 x276003_2, .int .i64 x276004_2, .int .i64 x276005_2, .int .i64 x276006_2, .string x276007_2] 25 (0, 0))) := ⟨by (with_reducible repeat (first | refine blk_drewN ?_ _ | refine blk_drew ?_ | refine blk_alloc ?_ _)); refine blk_far ?_ NB275_297.out _; (with_reducible repeat (first | refine blk_drewN ?_ _ | refine blk_drew ?_ | refine blk_alloc ?_ _)); refine blk_far ?_ NB275_297.out _; (with_reducible repeat (first | refine blk_drewN ?_ _ | refine blk_drew ?_ | refine blk_alloc ?_ _)); refine blk_far ?_ NB275_297.out _; (with_reducible repeat (first | refine blk_drewN ?_ _ | refine blk_drew ?_ | refine blk_alloc ?_ _)); refine blk_far ?_ NB275_297.out _; (with_reducible repeat (first | refine blk_drewN ?_ _ | refine blk_drew ?_ | refine blk_alloc ?_ _)); refine blk_far ?_ NB275_297.out _; (with_reducible repeat (first | refine blk_drewN ?_ _ | refine blk_drew ?_ | refine blk_alloc ?_ _)); refine blk_far ?_ NB275_297.out _; (with_reducible repeat (first | refine blk_drewN ?_ _ | refine blk_drew ?_ | refine blk_alloc ?_ _)); refine blk_far ?_ NB275_297.out _; (with_reducible repeat (first | refine blk_drewN ?_ _ | refine blk_drew ?_ | refine blk_alloc ?_ _)); refine blk_far ?_ NB275_297.out _; (with_reducible repeat (first | refine blk_drewN ?_ _ | refine blk_drew ?_ | refine blk_alloc ?_ _)); exact BK275.out⟩
        have n3_ : Aside0 (((((((((w30.setCell ⟨gb297, 0, none⟩ (.int .i64 t286)).setCell ⟨gb297, 1, none⟩ (.int .i64 t287)).setCell ⟨gb297, 2, none⟩ (.int .i64 t288)).setCell ⟨gb297, 3, none⟩ (.int .i64 t289)).setCell ⟨gb297, 4, none⟩ (.int .i64 t290)).setCell ⟨gb297, 5, none⟩ (.int .i64 t291)).setCell ⟨gb297, 6, none⟩ (.int .i64 t292)).setCell ⟨gb297, 7, none⟩ (.string t293)).heap[gb284]? = some (.cells #[.int .i64 x285000_2, .int .i64 x285001_2, .int .i64 x285002_2, .int .i64 x285003_2, .int .i64 x285004_2, .int .i64 x285005_2, .int .i64 x285006_2, .string x285007_2] 25 (0, 0))) := ⟨by (with_reducible repeat (first | refine blk_drewN ?_ _ | refine blk_drew ?_ | refine blk_alloc ?_ _)); refine blk_far ?_ NB284_297.out _; (with_reducible repeat (first | refine blk_drewN ?_ _ | refine blk_drew ?_ | refine blk_alloc ?_ _)); refine blk_far ?_ NB284_297.out _; (with_reducible repeat (first | refine blk_drewN ?_ _ | refine blk_drew ?_ | refine blk_alloc ?_ _)); refine blk_far ?_ NB284_297.out _; (with_reducible repeat (first | refine blk_drewN ?_ _ | refine blk_drew ?_ | refine blk_alloc ?_ _)); refine blk_far ?_ NB284_297.out _; (with_reducible repeat (first | refine blk_drewN ?_ _ | refine blk_drew ?_ | refine blk_alloc ?_ _)); refine blk_far ?_ NB284_297.out _; (with_reducible repeat (first | refine blk_drewN ?_ _ | refine blk_drew ?_ | refine blk_alloc ?_ _)); refine blk_far ?_ NB284_297.out _; (with_reducible repeat (first | refine blk_drewN ?_ _ | refine blk_drew ?_ | refine blk_alloc ?_ _)); refine blk_far ?_ NB284_297.out _; (with_reducible repeat (first | refine blk_drewN ?_ _ | refine blk_drew ?_ | refine blk_alloc ?_ _)); refine blk_far ?_ NB284_297.out _; (with_reducible repeat (first | refine blk_drewN ?_ _ | refine blk_drew ?_ | refine blk_alloc ?_ _)); exact BK284.out⟩
        have n4_ : Aside0 (((((((((w30.setCell ⟨gb297, 0, none⟩ (.int .i64 t286)).setCell ⟨gb297, 1, none⟩ (.int .i64 t287)).setCell ⟨gb297, 2, none⟩ (.int .i64 t288)).setCell ⟨gb297, 3, none⟩ (.int .i64 t289)).setCell ⟨gb297, 4, none⟩ (.int .i64 t290)).setCell ⟨gb297, 5, none⟩ (.int .i64 t291)).setCell ⟨gb297, 6, none⟩ (.int .i64 t292)).setCell ⟨gb297, 7, none⟩ (.string t293)).heap[gb297]? = some (.cells #[.int .i64 t286, .int .i64 t287, .int .i64 t288, .int .i64 t289, .int .i64 t290, .int .i64 t291, .int .i64 t292, .string t293] 25 (0, 0))) := ⟨by (with_reducible repeat (first | refine blk_drewN ?_ _ | refine blk_drew ?_ | refine blk_alloc ?_ _)); refine blk_put (cs := #[.int .i64 t286, .int .i64 t287, .int .i64 t288, .int .i64 t289, .int .i64 t290, .int .i64 t291, .int .i64 t292, .string (⟨#[]⟩ : ByteArray)]) ?_ 7 _ rfl; (with_reducible repeat (first | refine blk_drewN ?_ _ | refine blk_drew ?_ | refine blk_alloc ?_ _)); refine blk_put (cs := #[.int .i64 t286, .int .i64 t287, .int .i64 t288, .int .i64 t289, .int .i64 t290, .int .i64 t291, .int .i64 0, .string (⟨#[]⟩ : ByteArray)]) ?_ 6 _ rfl; (with_reducible repeat (first | refine blk_drewN ?_ _ | refine blk_drew ?_ | refine blk_alloc ?_ _)); refine blk_put (cs := #[.int .i64 t286, .int .i64 t287, .int .i64 t288, .int .i64 t289, .int .i64 t290, .int .i64 0, .int .i64 0, .string (⟨#[]⟩ : ByteArray)]) ?_ 5 _ rfl; (with_reducible repeat (first | refine blk_drewN ?_ _ | refine blk_drew ?_ | refine blk_alloc ?_ _)); refine blk_put (cs := #[.int .i64 t286, .int .i64 t287, .int .i64 t288, .int .i64 t289, .int .i64 0, .int .i64 0, .int .i64 0, .string (⟨#[]⟩ : ByteArray)]) ?_ 4 _ rfl; (with_reducible repeat (first | refine blk_drewN ?_ _ | refine blk_drew ?_ | refine blk_alloc ?_ _)); refine blk_put (cs := #[.int .i64 t286, .int .i64 t287, .int .i64 t288, .int .i64 0, .int .i64 0, .int .i64 0, .int .i64 0, .string (⟨#[]⟩ : ByteArray)]) ?_ 3 _ rfl; (with_reducible repeat (first | refine blk_drewN ?_ _ | refine blk_drew ?_ | refine blk_alloc ?_ _)); refine blk_put (cs := #[.int .i64 t286, .int .i64 t287, .int .i64 0, .int .i64 0, .int .i64 0, .int .i64 0, .int .i64 0, .string (⟨#[]⟩ : ByteArray)]) ?_ 2 _ rfl; (with_reducible repeat (first | refine blk_drewN ?_ _ | refine blk_drew ?_ | refine blk_alloc ?_ _)); refine blk_put (cs := #[.int .i64 t286, .int .i64 0, .int .i64 0, .int .i64 0, .int .i64 0, .int .i64 0, .int .i64 0, .string (⟨#[]⟩ : ByteArray)]) ?_ 1 _ rfl; (with_reducible repeat (first | refine blk_drewN ?_ _ | refine blk_drew ?_ | refine blk_alloc ?_ _)); refine blk_put (cs := #[.int .i64 0, .int .i64 0, .int .i64 0, .int .i64 0, .int .i64 0, .int .i64 0, .int .i64 0, .string (⟨#[]⟩ : ByteArray)]) ?_ 0 _ rfl; (with_reducible repeat (first | refine blk_drewN ?_ _ | refine blk_drew ?_ | refine blk_alloc ?_ _)); exact BK297.out⟩
        have n5_ : Aside0 (Below w.heap.size w ((((((((w30.setCell ⟨gb297, 0, none⟩ (.int .i64 t286)).setCell ⟨gb297, 1, none⟩ (.int .i64 t287)).setCell ⟨gb297, 2, none⟩ (.int .i64 t288)).setCell ⟨gb297, 3, none⟩ (.int .i64 t289)).setCell ⟨gb297, 4, none⟩ (.int .i64 t290)).setCell ⟨gb297, 5, none⟩ (.int .i64 t291)).setCell ⟨gb297, 6, none⟩ (.int .i64 t292)).setCell ⟨gb297, 7, none⟩ (.string t293))) := ⟨by repeat (first | (with_reducible first | exact HB.out | apply below_alloc | apply pw_below_drewN | apply below_drew1 | refine below_set ?_ GE265.out | refine below_set ?_ GE275.out | refine below_set ?_ GE284.out | refine below_set ?_ GE297.out) | exact HB.out)⟩
        (try clear HO296)
        (try clear BK265)
        (try clear BK275)
        (try clear BK284)
        (try clear BK297)
        (try clear HB)
        generalize ((((((((w30.setCell ⟨gb297, 0, none⟩ (.int .i64 t286)).setCell ⟨gb297, 1, none⟩ (.int .i64 t287)).setCell ⟨gb297, 2, none⟩ (.int .i64 t288)).setCell ⟨gb297, 3, none⟩ (.int .i64 t289)).setCell ⟨gb297, 4, none⟩ (.int .i64 t290)).setCell ⟨gb297, 5, none⟩ (.int .i64 t291)).setCell ⟨gb297, 6, none⟩ (.int .i64 t292)).setCell ⟨gb297, 7, none⟩ (.string t293)) = w39 at n0_ n1_ n2_ n3_ n4_ n5_ ⊢
        have HO296 := n0_
        have BK265 := n1_
        have BK275 := n2_
        have BK284 := n3_
        have BK297 := n4_
        have HB := n5_
        clear n0_ n1_ n2_ n3_ n4_ n5_
        have n0_ := Aside0.mk (Kd.R_drew HO296.out)
        have n1_ := Aside0.mk (blk_drew BK265.out)
        have n2_ := Aside0.mk (blk_drew BK275.out)
        have n3_ := Aside0.mk (blk_drew BK284.out)
        have n4_ := Aside0.mk (blk_drew BK297.out)
        have n5_ := Aside0.mk (below_drew1 HB.out)
        clear HO296
        clear BK265
        clear BK275
        clear BK284
        clear BK297
        clear HB
        have HO296 := n0_
        have BK265 := n1_
        have BK275 := n2_
        have BK284 := n3_
        have BK297 := n4_
        have HB := n5_
        clear n0_ n1_ n2_ n3_ n4_ n5_
        have p298 : 0 ≤ (x7_2 : Int) := of_decide_eq_true (by first | (with_reducible assumption) | assumption)
        have q298 : x7_2 < (l1.length : Int) := of_decide_eq_true (by first | (with_reducible assumption) | assumption)
        obtain ⟨ad298, e298, hx298_0, hx298_1, hx298_2, hx298_3, hx298_4, hx298_5, hx298_6⟩ := at_T27 HR1.out x7_2 p298 q298
        have hw298_6 := hx298_6
        have hw298_5 := hx298_5
        have hw298_4 := hx298_4
        have hw298_3 := hx298_3
        have hw298_2 := hx298_2
        have hw298_1 := hx298_1
        have hw298_0 := hx298_0
        obtain rfl : ad285 = ad298 := (by injection e298)
        replace hx298_0 := (HB.out.cell (World.block_lt_of_cell? w _ hx298_0)).trans hx298_0
        replace hx298_1 := (HB.out.cell (World.block_lt_of_cell? w _ hx298_1)).trans hx298_1
        replace hx298_2 := (HB.out.cell (World.block_lt_of_cell? w _ hx298_2)).trans hx298_2
        replace hx298_3 := (HB.out.cell (World.block_lt_of_cell? w _ hx298_3)).trans hx298_3
        replace hx298_4 := (HB.out.cell (World.block_lt_of_cell? w _ hx298_4)).trans hx298_4
        replace hx298_5 := (HB.out.cell (World.block_lt_of_cell? w _ hx298_5)).trans hx298_5
        replace hx298_6 := (HB.out.cell (World.block_lt_of_cell? w _ hx298_6)).trans hx298_6
        replace p298 := eq_true p298
        replace q298 := eq_true q298
        refine start_ (n := 13) (S := fun w' => w'.cell? ⟨gb265, 0, none⟩ = some (.int .i64 a0_0) ∧ w'.cell? ⟨gb265, 1, none⟩ = some (.int .i64 a0_1) ∧ w'.cell? ⟨gb284, 0, none⟩ = some (.int .i64 x285000_2) ∧ w'.cell? ⟨gb284, 1, none⟩ = some (.int .i64 x285001_2) ∧ w'.cell? ⟨gb284, 2, none⟩ = some (.int .i64 x285002_2) ∧ w'.cell? ⟨gb284, 3, none⟩ = some (.int .i64 x285003_2) ∧ w'.cell? ⟨gb284, 4, none⟩ = some (.int .i64 x285004_2) ∧ w'.cell? ⟨gb284, 5, none⟩ = some (.int .i64 x285005_2) ∧ w'.cell? ⟨gb284, 6, none⟩ = some (.int .i64 x285006_2) ∧ w'.cell? ⟨gb284, 7, none⟩ = some (.string x285007_2) ∧ w'.cell? (ad285.add ((x7_2).toNat * 7)) = some (.int .i64 ((rd_T27 l1 x7_2).f0)) ∧ w'.cell? ⟨(ad285.add ((x7_2).toNat * 7)).block, (ad285.add ((x7_2).toNat * 7)).off + 1, none⟩ = some (.int .i64 ((rd_T27 l1 x7_2).f1)) ∧ w'.cell? ⟨(ad285.add ((x7_2).toNat * 7)).block, (ad285.add ((x7_2).toNat * 7)).off + 2, none⟩ = some (.int .i64 ((rd_T27 l1 x7_2).f2)) ∧ w'.cell? ⟨(ad285.add ((x7_2).toNat * 7)).block, (ad285.add ((x7_2).toNat * 7)).off + 3, none⟩ = some (.int .i64 ((rd_T27 l1 x7_2).f3)) ∧ w'.cell? ⟨(ad285.add ((x7_2).toNat * 7)).block, (ad285.add ((x7_2).toNat * 7)).off + 4, none⟩ = some (.int .i64 ((rd_T27 l1 x7_2).f4)) ∧ w'.cell? ⟨(ad285.add ((x7_2).toNat * 7)).block, (ad285.add ((x7_2).toNat * 7)).off + 5, none⟩ = some (.string ((rd_T27 l1 x7_2).f5)) ∧ w'.cell? ⟨(ad285.add ((x7_2).toNat * 7)).block, (ad285.add ((x7_2).toNat * 7)).off + 6, none⟩ = some (.int .i64 ((rd_T27 l1 x7_2).f6))) (ds := []) #[false, false, false, false, false, false, false, false, false, false, false, false, false] (by kernel_rfl) rfl rfl ⟨(blk_cell BK265.out 0).trans rfl, (blk_cell BK265.out 1).trans rfl, (blk_cell BK284.out 0).trans rfl, (blk_cell BK284.out 1).trans rfl, (blk_cell BK284.out 2).trans rfl, (blk_cell BK284.out 3).trans rfl, (blk_cell BK284.out 4).trans rfl, (blk_cell BK284.out 5).trans rfl, (blk_cell BK284.out 6).trans rfl, (blk_cell BK284.out 7).trans rfl, ((HB.out.cell (World.block_lt_of_cell? w _ hw298_0)).trans hw298_0), ((HB.out.cell (World.block_lt_of_cell? w _ hw298_1)).trans hw298_1), ((HB.out.cell (World.block_lt_of_cell? w _ hw298_2)).trans hw298_2), ((HB.out.cell (World.block_lt_of_cell? w _ hw298_3)).trans hw298_3), ((HB.out.cell (World.block_lt_of_cell? w _ hw298_4)).trans hw298_4), ((HB.out.cell (World.block_lt_of_cell? w _ hw298_5)).trans hw298_5), ((HB.out.cell (World.block_lt_of_cell? w _ hw298_6)).trans hw298_6)⟩ (fun hHeld => ?_); refine with_tabW signalbenchlaw20_ScrambleDecodes.tab9 signalbenchlaw20_ScrambleDecodes.bits9 (fun HT_ HW_ => ?_)
        generalize w39.drew = w40 at HO296 BK265 BK275 BK284 BK297 HB hx298_0 hx298_1 hx298_2 hx298_3 hx298_4 hx298_5 hx298_6 hHeld ⊢
        refine pstep 2 (some 39) #[false, false, true, false, false, false, false, false, false, false, false, false, false] HT_.out ?_
        refine pstep 3 (some 40) #[false, false, true, true, false, false, false, false, false, false, false, false, false] HT_.out ?_
        refine pstep 4 (some 41) #[false, false, true, true, true, false, false, false, false, false, false, false, false] HT_.out ?_
        refine take_ (i := 0) (N := some 37) (v := ?_) (a' := ?_) #[true, false, true, true, true, false, false, false, false, false, false, false, false] rfl rfl (take_ofW HT_.out HW_.out (by kernel_rfl)) (fun _ _ _ h => h) (Or.inl ⟨by rfl, ?_⟩) hHeld ?_ ?_
        rotate_left
        ·rintro w' ⟨s0, s1, s2, s3, s4, s5, s6, s7, s8, s9, s10, s11, s12, s13, s14, s15, s16⟩
         go_simp
         with_reducible rfl
        rotate_left
        ·simp only [Act.put, nrm]
         rfl
        refine take_ (i := 1) (N := some 38) (v := ?_) (a' := ?_) #[true, true, true, true, true, false, false, false, false, false, false, false, false] rfl rfl (take_ofW HT_.out HW_.out (by kernel_rfl)) (fun _ _ _ h => h) (Or.inl ⟨by rfl, ?_⟩) hHeld ?_ ?_
        rotate_left
        ·rintro w' ⟨s0, s1, s2, s3, s4, s5, s6, s7, s8, s9, s10, s11, s12, s13, s14, s15, s16⟩
         go_simp
         with_reducible rfl
        rotate_left
        ·simp only [Act.put, nrm]
         rfl
        refine take_ (i := 5) (N := some 42) (v := ?_) (a' := ?_) #[true, true, true, true, true, true, false, false, false, false, false, false, false] rfl rfl (take_ofW HT_.out HW_.out (by kernel_rfl)) (fun _ _ _ h => h) (Or.inl ⟨by rfl, ?_⟩) hHeld ?_ ?_
        rotate_left
        ·rintro w' ⟨s0, s1, s2, s3, s4, s5, s6, s7, s8, s9, s10, s11, s12, s13, s14, s15, s16⟩
         go_simp
         with_reducible rfl
        rotate_left
        ·simp only [Act.put, nrm]
         rfl
        refine join_ (σ := Value × Nat) 2 #[true, true, true, true, true, true, true, true, true, true, true, false, false] (fun s_ => [(43, .tuple #[.agg #[.int .i64 t299, .int .i64 t300, .int .i64 t301, .int .i64 t302, .int .i64 t303, .int .i64 t304, .int .i64 t305, .string t306], s_.1]), (10, .pointer (some ⟨s_.2, 0, none⟩)), (36, .tuple #[.agg #[.int .i64 t299, .int .i64 t300, .int .i64 t301, .int .i64 t302, .int .i64 t303, .int .i64 t304, .int .i64 t305, .string t306], s_.1]), (44, .agg #[.int .i64 t299, .int .i64 t300, .int .i64 t301, .int .i64 t302, .int .i64 t303, .int .i64 t304, .int .i64 t305, .string t306]), (45, s_.1)]) (fun s_ w' => (w'.cell? ⟨gb265, 0, none⟩ = some (.int .i64 a0_0) ∧ w'.cell? ⟨gb265, 1, none⟩ = some (.int .i64 a0_1) ∧ w'.cell? ⟨gb284, 0, none⟩ = some (.int .i64 x285000_2) ∧ w'.cell? ⟨gb284, 1, none⟩ = some (.int .i64 x285001_2) ∧ w'.cell? ⟨gb284, 2, none⟩ = some (.int .i64 x285002_2) ∧ w'.cell? ⟨gb284, 3, none⟩ = some (.int .i64 x285003_2) ∧ w'.cell? ⟨gb284, 4, none⟩ = some (.int .i64 x285004_2) ∧ w'.cell? ⟨gb284, 5, none⟩ = some (.int .i64 x285005_2) ∧ w'.cell? ⟨gb284, 6, none⟩ = some (.int .i64 x285006_2) ∧ w'.cell? ⟨gb284, 7, none⟩ = some (.string x285007_2) ∧ w'.cell? (ad285.add ((x7_2).toNat * 7)) = some (.int .i64 ((rd_T27 l1 x7_2).f0)) ∧ w'.cell? ⟨(ad285.add ((x7_2).toNat * 7)).block, (ad285.add ((x7_2).toNat * 7)).off + 1, none⟩ = some (.int .i64 ((rd_T27 l1 x7_2).f1)) ∧ w'.cell? ⟨(ad285.add ((x7_2).toNat * 7)).block, (ad285.add ((x7_2).toNat * 7)).off + 2, none⟩ = some (.int .i64 ((rd_T27 l1 x7_2).f2)) ∧ w'.cell? ⟨(ad285.add ((x7_2).toNat * 7)).block, (ad285.add ((x7_2).toNat * 7)).off + 3, none⟩ = some (.int .i64 ((rd_T27 l1 x7_2).f3)) ∧ w'.cell? ⟨(ad285.add ((x7_2).toNat * 7)).block, (ad285.add ((x7_2).toNat * 7)).off + 4, none⟩ = some (.int .i64 ((rd_T27 l1 x7_2).f4)) ∧ w'.cell? ⟨(ad285.add ((x7_2).toNat * 7)).block, (ad285.add ((x7_2).toNat * 7)).off + 5, none⟩ = some (.string ((rd_T27 l1 x7_2).f5)) ∧ w'.cell? ⟨(ad285.add ((x7_2).toNat * 7)).block, (ad285.add ((x7_2).toNat * 7)).off + 6, none⟩ = some (.int .i64 ((rd_T27 l1 x7_2).f6))) ∧ (Kd.R k27 27 w' w.heap.size (fun k_ => some k_ ≠ (s_.1 : Value).ownBlock) v295 t294) ∧ (Kd.R k27 27 w' w.heap.size (fun k_ => some k_ ≠ (v295 : Value).ownBlock) s_.1 t307) ∧ (w'.heap[gb265]? = some (.cells #[.int .i64 a0_0, .int .i64 a0_1] 23 (0, 0))) ∧ (w'.heap[gb275]? = some (.cells #[.int .i64 x276000_2, .int .i64 x276001_2, .int .i64 x276002_2, .int .i64 x276003_2, .int .i64 x276004_2, .int .i64 x276005_2, .int .i64 x276006_2, .string x276007_2] 25 (0, 0))) ∧ (w'.heap[gb284]? = some (.cells #[.int .i64 x285000_2, .int .i64 x285001_2, .int .i64 x285002_2, .int .i64 x285003_2, .int .i64 x285004_2, .int .i64 x285005_2, .int .i64 x285006_2, .string x285007_2] 25 (0, 0))) ∧ (w'.heap[gb297]? = some (.cells #[.int .i64 t286, .int .i64 t287, .int .i64 t288, .int .i64 t289, .int .i64 t290, .int .i64 t291, .int .i64 t292, .string t293] 25 (0, 0))) ∧ (w'.heap[s_.2]? = some (.cells #[.int .i64 0, .int .i64 0, .int .i64 0, .int .i64 0, .int .i64 0, .int .i64 0, .int .i64 0, .string (⟨#[]⟩ : ByteArray)] 25 (0, 0))) ∧ (w.heap.size ≤ s_.2) ∧ (w.heap.size ≤ s_.2) ∧ (gb265 ≠ s_.2) ∧ (s_.2 ≠ gb265) ∧ (gb275 ≠ s_.2) ∧ (s_.2 ≠ gb275) ∧ (gb284 ≠ s_.2) ∧ (s_.2 ≠ gb284) ∧ (gb297 ≠ s_.2) ∧ (s_.2 ≠ gb297) ∧ (Below w.heap.size w w')) ?_ ?_
        rotate_left
        ·intro hCont
         refine two_ (i := 6) (j := 10) (Ni := some 43) (Nj := some 10) #[true, true, true, true, true, true, true, false, false, false, false, false, false] #[true, true, true, true, true, true, false, false, false, false, true, false, false] rfl rfl rfl rfl (two_of HT_.out (by kernel_rfl)) (by decide) (by decide) (fun K hK => ?_) (fun K hK => ?_)
         ·skip
          refine goes_ Try.func18 (by kernel_rfl) rfl #[.agg #[.int .i64 a0_0, .int .i64 a0_1], .agg #[.int .i64 x285000_2, .int .i64 x285001_2, .int .i64 x285002_2, .int .i64 x285003_2, .int .i64 x285004_2, .int .i64 x285005_2, .int .i64 x285006_2, .string x285007_2], .agg #[.int .i64 ((rd_T27 l1 x7_2).f0), .int .i64 ((rd_T27 l1 x7_2).f1), .int .i64 ((rd_T27 l1 x7_2).f2), .int .i64 ((rd_T27 l1 x7_2).f3), .int .i64 ((rd_T27 l1 x7_2).f4), .string ((rd_T27 l1 x7_2).f5), .int .i64 ((rd_T27 l1 x7_2).f6)]] (by rfl) rfl rfl (by (try simp only [List.map_toArray, List.map_cons, List.map_nil]); first | done | rfl | (simp only [List.length_drop, List.length_take]; rfl)) ?_
          with_reducible refine (signalbenchref20_Step.calls k2 a0_0 a0_1 x285000_2 x285001_2 x285002_2 x285003_2 x285004_2 x285005_2 x285006_2 x285007_2 ((rd_T27 l1 x7_2).f0) ((rd_T27 l1 x7_2).f1) ((rd_T27 l1 x7_2).f2) ((rd_T27 l1 x7_2).f3) ((rd_T27 l1 x7_2).f4) ((rd_T27 l1 x7_2).f5) ((rd_T27 l1 x7_2).f6) t299 t300 t301 t302 t303 t304 t305 t306 t307 _ A24.out).mono ?_
          rintro e w41 ⟨v308, rfl, ho0, hb⟩
          refine ⟨_, rfl, ?_⟩
          have n0_ := Aside0.mk (Kd.R_elder' (rkw HO296.out) (Kd.R_base ho0) hb)
          have n1_ := Aside0.mk (Kd.R_lower (Kd.R_new' ho0 (Kd.R_lt (rkw HO296.out))) (below_size (hbw HB.out)))
          have n2_ := Aside0.mk (blkb BK265.out hb)
          have n3_ := Aside0.mk (blkb BK275.out hb)
          have n4_ := Aside0.mk (blkb BK284.out hb)
          have n5_ := Aside0.mk (blkb BK297.out hb)
          have n6_ := Aside0.mk (below_step (hbw HB.out) hb)
          clear HO296
          clear BK265
          clear BK275
          clear BK284
          clear BK297
          clear HB
          have HO296 := n0_
          have HO309 := n1_
          have BK265 := n2_
          have BK275 := n3_
          have BK284 := n4_
          have BK297 := n5_
          have HB := n6_
          clear n0_ n1_ n2_ n3_ n4_ n5_ n6_
          (try clear hb)
          (try clear hb2)
          (try clear hk)
          (try clear hi)
          (try clear ho0)
          refine hK.out _ _ ⟨(blk_cell BK265.out 0).trans rfl, (blk_cell BK265.out 1).trans rfl, (blk_cell BK284.out 0).trans rfl, (blk_cell BK284.out 1).trans rfl, (blk_cell BK284.out 2).trans rfl, (blk_cell BK284.out 3).trans rfl, (blk_cell BK284.out 4).trans rfl, (blk_cell BK284.out 5).trans rfl, (blk_cell BK284.out 6).trans rfl, (blk_cell BK284.out 7).trans rfl, ((HB.out.cell (World.block_lt_of_cell? w _ hw298_0)).trans hw298_0), ((HB.out.cell (World.block_lt_of_cell? w _ hw298_1)).trans hw298_1), ((HB.out.cell (World.block_lt_of_cell? w _ hw298_2)).trans hw298_2), ((HB.out.cell (World.block_lt_of_cell? w _ hw298_3)).trans hw298_3), ((HB.out.cell (World.block_lt_of_cell? w _ hw298_4)).trans hw298_4), ((HB.out.cell (World.block_lt_of_cell? w _ hw298_5)).trans hw298_5), ((HB.out.cell (World.block_lt_of_cell? w _ hw298_6)).trans hw298_6)⟩ (fun hHeld => ?_)
          clear hK K
          refine norm_ (a' := ?_) ?_ ?_
          rotate_left
          ·show Act.put _ (some 43) _ = _
           simp only [Act.put, nrm]
           rfl
          refine pstep 7 (some 36) #[true, true, true, true, true, true, true, true, false, false, false, false, false] HT_.out ?_
          refine pstep 8 (some 44) #[true, true, true, true, true, true, true, true, true, false, false, false, false] HT_.out ?_
          refine pstep 9 (some 45) #[true, true, true, true, true, true, true, true, true, true, false, false, false] HT_.out ?_
          refine one_ (i := 10) (N := some 10) #[true, true, true, true, true, true, true, true, true, true, true, false, false] rfl rfl (one_of HT_.out (by kernel_rfl)) (by decide) (fun K hK => ?_)
          refine box_step ?hg (N := 10) ?hd (cs := #[.int .i64 0, .int .i64 0, .int .i64 0, .int .i64 0, .int .i64 0, .int .i64 0, .int .i64 0, .string (⟨#[]⟩ : ByteArray)]) (t := 25) ?hr ?_; (case hd => rfl); (case hg => rfl); (case hr => first | (go_simp; done) | (go_simp; rfl))
          intro gb310 hg w42 hbox hb
          have n0_ := Aside0.mk (Kd.R_below (rkw HO296.out) hb)
          have n1_ := Aside0.mk (Kd.R_below (rkw HO309.out) hb)
          have n2_ := Aside0.mk (blkb BK265.out hb)
          have n3_ := Aside0.mk (blkb BK275.out hb)
          have n4_ := Aside0.mk (blkb BK284.out hb)
          have n5_ := Aside0.mk (blkb BK297.out hb)
          have n6_ := Aside0.mk (below_step (hbw HB.out) hb)
          have n7_ := Aside0.mk (hbox)
          have n8_ := Aside0.mk ((by rw [hg]; exact (below_size (hbw HB.out)) : w.heap.size ≤ gb310))
          have n9_ := Aside0.mk ((by rw [hg]; exact (below_size (hbw HB.out)) : w.heap.size ≤ gb310))
          have n10_ := Aside0.mk ((by rw [hg]; exact Nat.ne_of_lt (blkl BK265.out) : gb265 ≠ gb310))
          have n11_ := Aside0.mk ((by rw [hg]; exact Nat.ne_of_gt (blkl BK265.out) : gb310 ≠ gb265))
          have n12_ := Aside0.mk ((by rw [hg]; exact Nat.ne_of_lt (blkl BK275.out) : gb275 ≠ gb310))
          have n13_ := Aside0.mk ((by rw [hg]; exact Nat.ne_of_gt (blkl BK275.out) : gb310 ≠ gb275))
          have n14_ := Aside0.mk ((by rw [hg]; exact Nat.ne_of_lt (blkl BK284.out) : gb284 ≠ gb310))
          have n15_ := Aside0.mk ((by rw [hg]; exact Nat.ne_of_gt (blkl BK284.out) : gb310 ≠ gb284))
          have n16_ := Aside0.mk ((by rw [hg]; exact Nat.ne_of_lt (blkl BK297.out) : gb297 ≠ gb310))
          have n17_ := Aside0.mk ((by rw [hg]; exact Nat.ne_of_gt (blkl BK297.out) : gb310 ≠ gb297))
          clear HO296
          clear HO309
          clear BK265
          clear BK275
          clear BK284
          clear BK297
          clear HB
          have HO296 := n0_
          have HO309 := n1_
          have BK265 := n2_
          have BK275 := n3_
          have BK284 := n4_
          have BK297 := n5_
          have HB := n6_
          have BK310 := n7_
          have GW310 := n8_
          have GE310 := n9_
          have NB265_310 := n10_
          have NB310_265 := n11_
          have NB275_310 := n12_
          have NB310_275 := n13_
          have NB284_310 := n14_
          have NB310_284 := n15_
          have NB297_310 := n16_
          have NB310_297 := n17_
          clear n0_ n1_ n2_ n3_ n4_ n5_ n6_ n7_ n8_ n9_ n10_ n11_ n12_ n13_ n14_ n15_ n16_ n17_
          clear hb hbox hg
          refine hK.out _ _ ⟨(blk_cell BK265.out 0).trans rfl, (blk_cell BK265.out 1).trans rfl, (blk_cell BK284.out 0).trans rfl, (blk_cell BK284.out 1).trans rfl, (blk_cell BK284.out 2).trans rfl, (blk_cell BK284.out 3).trans rfl, (blk_cell BK284.out 4).trans rfl, (blk_cell BK284.out 5).trans rfl, (blk_cell BK284.out 6).trans rfl, (blk_cell BK284.out 7).trans rfl, ((HB.out.cell (World.block_lt_of_cell? w _ hw298_0)).trans hw298_0), ((HB.out.cell (World.block_lt_of_cell? w _ hw298_1)).trans hw298_1), ((HB.out.cell (World.block_lt_of_cell? w _ hw298_2)).trans hw298_2), ((HB.out.cell (World.block_lt_of_cell? w _ hw298_3)).trans hw298_3), ((HB.out.cell (World.block_lt_of_cell? w _ hw298_4)).trans hw298_4), ((HB.out.cell (World.block_lt_of_cell? w _ hw298_5)).trans hw298_5), ((HB.out.cell (World.block_lt_of_cell? w _ hw298_6)).trans hw298_6)⟩ (fun hHeld => ?_)
          clear hK K
          refine norm_ (a' := ?_) ?_ ?_
          rotate_left
          ·show Act.put _ (some 10) _ = _
           simp only [Act.put, nrm]
           rfl
          exact norm_ (by simp only [putAll, Act.put, List.setIfInBounds_toArray, List.set_cons_zero, List.set_cons_succ]) (hCont (v308, gb310) _ ⟨hHeld, (by (with_reducible repeat (first | apply Kd.R_alloc | apply Kd.R_drewN | apply Kd.R_drew)); exact Kd.R_mono HO296.out (fun _ hk => hk.2)), (by (with_reducible repeat (first | apply Kd.R_alloc | apply Kd.R_drewN | apply Kd.R_drew)); exact Kd.R_mono HO309.out (fun _ hk => hk.2)), (bkw BK265.out), (bkw BK275.out), (bkw BK284.out), (bkw BK297.out), (bkw BK310.out), GW310.out, GE310.out, NB265_310.out, NB310_265.out, NB275_310.out, NB310_275.out, NB284_310.out, NB310_284.out, NB297_310.out, NB310_297.out, (hbw HB.out)⟩)
         ·skip
          refine box_step ?hg (N := 10) ?hd (cs := #[.int .i64 0, .int .i64 0, .int .i64 0, .int .i64 0, .int .i64 0, .int .i64 0, .int .i64 0, .string (⟨#[]⟩ : ByteArray)]) (t := 25) ?hr ?_; (case hd => rfl); (case hg => rfl); (case hr => first | (go_simp; done) | (go_simp; rfl))
          intro gb310 hg w41 hbox hb
          have n0_ := Aside0.mk (Kd.R_below (rkw HO296.out) hb)
          have n1_ := Aside0.mk (blkb BK265.out hb)
          have n2_ := Aside0.mk (blkb BK275.out hb)
          have n3_ := Aside0.mk (blkb BK284.out hb)
          have n4_ := Aside0.mk (blkb BK297.out hb)
          have n5_ := Aside0.mk (below_step (hbw HB.out) hb)
          have n6_ := Aside0.mk (hbox)
          have n7_ := Aside0.mk ((by rw [hg]; exact (below_size (hbw HB.out)) : w.heap.size ≤ gb310))
          have n8_ := Aside0.mk ((by rw [hg]; exact (below_size (hbw HB.out)) : w.heap.size ≤ gb310))
          have n9_ := Aside0.mk ((by rw [hg]; exact Nat.ne_of_lt (blkl BK265.out) : gb265 ≠ gb310))
          have n10_ := Aside0.mk ((by rw [hg]; exact Nat.ne_of_gt (blkl BK265.out) : gb310 ≠ gb265))
          have n11_ := Aside0.mk ((by rw [hg]; exact Nat.ne_of_lt (blkl BK275.out) : gb275 ≠ gb310))
          have n12_ := Aside0.mk ((by rw [hg]; exact Nat.ne_of_gt (blkl BK275.out) : gb310 ≠ gb275))
          have n13_ := Aside0.mk ((by rw [hg]; exact Nat.ne_of_lt (blkl BK284.out) : gb284 ≠ gb310))
          have n14_ := Aside0.mk ((by rw [hg]; exact Nat.ne_of_gt (blkl BK284.out) : gb310 ≠ gb284))
          have n15_ := Aside0.mk ((by rw [hg]; exact Nat.ne_of_lt (blkl BK297.out) : gb297 ≠ gb310))
          have n16_ := Aside0.mk ((by rw [hg]; exact Nat.ne_of_gt (blkl BK297.out) : gb310 ≠ gb297))
          clear HO296
          clear BK265
          clear BK275
          clear BK284
          clear BK297
          clear HB
          have HO296 := n0_
          have BK265 := n1_
          have BK275 := n2_
          have BK284 := n3_
          have BK297 := n4_
          have HB := n5_
          have BK310 := n6_
          have GW310 := n7_
          have GE310 := n8_
          have NB265_310 := n9_
          have NB310_265 := n10_
          have NB275_310 := n11_
          have NB310_275 := n12_
          have NB284_310 := n13_
          have NB310_284 := n14_
          have NB297_310 := n15_
          have NB310_297 := n16_
          clear n0_ n1_ n2_ n3_ n4_ n5_ n6_ n7_ n8_ n9_ n10_ n11_ n12_ n13_ n14_ n15_ n16_
          clear hb hbox hg
          refine hK.out _ _ ⟨(blk_cell BK265.out 0).trans rfl, (blk_cell BK265.out 1).trans rfl, (blk_cell BK284.out 0).trans rfl, (blk_cell BK284.out 1).trans rfl, (blk_cell BK284.out 2).trans rfl, (blk_cell BK284.out 3).trans rfl, (blk_cell BK284.out 4).trans rfl, (blk_cell BK284.out 5).trans rfl, (blk_cell BK284.out 6).trans rfl, (blk_cell BK284.out 7).trans rfl, ((HB.out.cell (World.block_lt_of_cell? w _ hw298_0)).trans hw298_0), ((HB.out.cell (World.block_lt_of_cell? w _ hw298_1)).trans hw298_1), ((HB.out.cell (World.block_lt_of_cell? w _ hw298_2)).trans hw298_2), ((HB.out.cell (World.block_lt_of_cell? w _ hw298_3)).trans hw298_3), ((HB.out.cell (World.block_lt_of_cell? w _ hw298_4)).trans hw298_4), ((HB.out.cell (World.block_lt_of_cell? w _ hw298_5)).trans hw298_5), ((HB.out.cell (World.block_lt_of_cell? w _ hw298_6)).trans hw298_6)⟩ (fun hHeld => ?_)
          clear hK K
          refine norm_ (a' := ?_) ?_ ?_
          rotate_left
          ·show Act.put _ (some 10) _ = _
           simp only [Act.put, nrm]
           rfl
          refine one_ (i := 6) (N := some 43) #[true, true, true, true, true, true, true, false, false, false, true, false, false] rfl rfl (one_of HT_.out (by kernel_rfl)) (by decide) (fun K hK => ?_)
          refine goes_ Try.func18 (by kernel_rfl) rfl #[.agg #[.int .i64 a0_0, .int .i64 a0_1], .agg #[.int .i64 x285000_2, .int .i64 x285001_2, .int .i64 x285002_2, .int .i64 x285003_2, .int .i64 x285004_2, .int .i64 x285005_2, .int .i64 x285006_2, .string x285007_2], .agg #[.int .i64 ((rd_T27 l1 x7_2).f0), .int .i64 ((rd_T27 l1 x7_2).f1), .int .i64 ((rd_T27 l1 x7_2).f2), .int .i64 ((rd_T27 l1 x7_2).f3), .int .i64 ((rd_T27 l1 x7_2).f4), .string ((rd_T27 l1 x7_2).f5), .int .i64 ((rd_T27 l1 x7_2).f6)]] (by rfl) rfl rfl (by (try simp only [List.map_toArray, List.map_cons, List.map_nil]); first | done | rfl | (simp only [List.length_drop, List.length_take]; rfl)) ?_
          with_reducible refine (signalbenchref20_Step.calls k2 a0_0 a0_1 x285000_2 x285001_2 x285002_2 x285003_2 x285004_2 x285005_2 x285006_2 x285007_2 ((rd_T27 l1 x7_2).f0) ((rd_T27 l1 x7_2).f1) ((rd_T27 l1 x7_2).f2) ((rd_T27 l1 x7_2).f3) ((rd_T27 l1 x7_2).f4) ((rd_T27 l1 x7_2).f5) ((rd_T27 l1 x7_2).f6) t299 t300 t301 t302 t303 t304 t305 t306 t307 _ A24.out).mono ?_
          rintro e w42 ⟨v308, rfl, ho0, hb⟩
          refine ⟨_, rfl, ?_⟩
          have n0_ := Aside0.mk (Kd.R_elder' (rkw HO296.out) (Kd.R_base ho0) hb)
          have n1_ := Aside0.mk (Kd.R_lower (Kd.R_new' ho0 (Kd.R_lt (rkw HO296.out))) (below_size (hbw HB.out)))
          have n2_ := Aside0.mk (blkb BK265.out hb)
          have n3_ := Aside0.mk (blkb BK275.out hb)
          have n4_ := Aside0.mk (blkb BK284.out hb)
          have n5_ := Aside0.mk (blkb BK297.out hb)
          have n6_ := Aside0.mk (blkb BK310.out hb)
          have n7_ := Aside0.mk (below_step (hbw HB.out) hb)
          clear HO296
          clear BK265
          clear BK275
          clear BK284
          clear BK297
          clear BK310
          clear HB
          have HO296 := n0_
          have HO309 := n1_
          have BK265 := n2_
          have BK275 := n3_
          have BK284 := n4_
          have BK297 := n5_
          have BK310 := n6_
          have HB := n7_
          clear n0_ n1_ n2_ n3_ n4_ n5_ n6_ n7_
          (try clear hb)
          (try clear hb2)
          (try clear hk)
          (try clear hi)
          (try clear ho0)
          refine hK.out _ _ ⟨(blk_cell BK265.out 0).trans rfl, (blk_cell BK265.out 1).trans rfl, (blk_cell BK284.out 0).trans rfl, (blk_cell BK284.out 1).trans rfl, (blk_cell BK284.out 2).trans rfl, (blk_cell BK284.out 3).trans rfl, (blk_cell BK284.out 4).trans rfl, (blk_cell BK284.out 5).trans rfl, (blk_cell BK284.out 6).trans rfl, (blk_cell BK284.out 7).trans rfl, ((HB.out.cell (World.block_lt_of_cell? w _ hw298_0)).trans hw298_0), ((HB.out.cell (World.block_lt_of_cell? w _ hw298_1)).trans hw298_1), ((HB.out.cell (World.block_lt_of_cell? w _ hw298_2)).trans hw298_2), ((HB.out.cell (World.block_lt_of_cell? w _ hw298_3)).trans hw298_3), ((HB.out.cell (World.block_lt_of_cell? w _ hw298_4)).trans hw298_4), ((HB.out.cell (World.block_lt_of_cell? w _ hw298_5)).trans hw298_5), ((HB.out.cell (World.block_lt_of_cell? w _ hw298_6)).trans hw298_6)⟩ (fun hHeld => ?_)
          clear hK K
          refine norm_ (a' := ?_) ?_ ?_
          rotate_left
          ·show Act.put _ (some 43) _ = _
           simp only [Act.put, nrm]
           rfl
          refine pstep 7 (some 36) #[true, true, true, true, true, true, true, true, false, false, true, false, false] HT_.out ?_
          refine pstep 8 (some 44) #[true, true, true, true, true, true, true, true, true, false, true, false, false] HT_.out ?_
          refine pstep 9 (some 45) #[true, true, true, true, true, true, true, true, true, true, true, false, false] HT_.out ?_
          exact norm_ (by simp only [putAll, Act.put, List.setIfInBounds_toArray, List.set_cons_zero, List.set_cons_succ]) (hCont (v308, gb310) _ ⟨hHeld, (by (with_reducible repeat (first | apply Kd.R_alloc | apply Kd.R_drewN | apply Kd.R_drew)); exact Kd.R_mono HO296.out (fun _ hk => hk.2)), (by (with_reducible repeat (first | apply Kd.R_alloc | apply Kd.R_drewN | apply Kd.R_drew)); exact Kd.R_mono HO309.out (fun _ hk => hk.2)), (bkw BK265.out), (bkw BK275.out), (bkw BK284.out), (bkw BK297.out), (bkw BK310.out), GW310.out, GE310.out, NB265_310.out, NB310_265.out, NB275_310.out, NB310_275.out, NB284_310.out, NB310_284.out, NB297_310.out, NB310_297.out, (hbw HB.out)⟩)
        rintro ⟨v308, gb310⟩ w43 ⟨hS_, h0_, h1_, h2_, h3_, h4_, h5_, h6_, h7_, h8_, h9_, h10_, h11_, h12_, h13_, h14_, h15_, h16_, h17_⟩
        have n0_ : Aside0 (Kd.R k27 27 w43 w.heap.size (fun k_ => some k_ ≠ (v308 : Value).ownBlock) v295 t294) := ⟨h0_⟩
        have n1_ : Aside0 (Kd.R k27 27 w43 w.heap.size (fun k_ => some k_ ≠ (v295 : Value).ownBlock) v308 t307) := ⟨h1_⟩
        have n2_ : Aside0 (w43.heap[gb265]? = some (.cells #[.int .i64 a0_0, .int .i64 a0_1] 23 (0, 0))) := ⟨h2_⟩
        have n3_ : Aside0 (w43.heap[gb275]? = some (.cells #[.int .i64 x276000_2, .int .i64 x276001_2, .int .i64 x276002_2, .int .i64 x276003_2, .int .i64 x276004_2, .int .i64 x276005_2, .int .i64 x276006_2, .string x276007_2] 25 (0, 0))) := ⟨h3_⟩
        have n4_ : Aside0 (w43.heap[gb284]? = some (.cells #[.int .i64 x285000_2, .int .i64 x285001_2, .int .i64 x285002_2, .int .i64 x285003_2, .int .i64 x285004_2, .int .i64 x285005_2, .int .i64 x285006_2, .string x285007_2] 25 (0, 0))) := ⟨h4_⟩
        have n5_ : Aside0 (w43.heap[gb297]? = some (.cells #[.int .i64 t286, .int .i64 t287, .int .i64 t288, .int .i64 t289, .int .i64 t290, .int .i64 t291, .int .i64 t292, .string t293] 25 (0, 0))) := ⟨h5_⟩
        have n6_ : Aside0 (w43.heap[gb310]? = some (.cells #[.int .i64 0, .int .i64 0, .int .i64 0, .int .i64 0, .int .i64 0, .int .i64 0, .int .i64 0, .string (⟨#[]⟩ : ByteArray)] 25 (0, 0))) := ⟨h6_⟩
        have n7_ : Aside0 (w.heap.size ≤ gb310) := ⟨h7_⟩
        have n8_ : Aside0 (w.heap.size ≤ gb310) := ⟨h8_⟩
        have n9_ : Aside0 (gb265 ≠ gb310) := ⟨h9_⟩
        have n10_ : Aside0 (gb310 ≠ gb265) := ⟨h10_⟩
        have n11_ : Aside0 (gb275 ≠ gb310) := ⟨h11_⟩
        have n12_ : Aside0 (gb310 ≠ gb275) := ⟨h12_⟩
        have n13_ : Aside0 (gb284 ≠ gb310) := ⟨h13_⟩
        have n14_ : Aside0 (gb310 ≠ gb284) := ⟨h14_⟩
        have n15_ : Aside0 (gb297 ≠ gb310) := ⟨h15_⟩
        have n16_ : Aside0 (gb310 ≠ gb297) := ⟨h16_⟩
        have n17_ : Aside0 (Below w.heap.size w w43) := ⟨h17_⟩
        clear HO296
        clear BK265
        clear BK275
        clear BK284
        clear BK297
        clear HB
        clear h0_ h1_ h2_ h3_ h4_ h5_ h6_ h7_ h8_ h9_ h10_ h11_ h12_ h13_ h14_ h15_ h16_ h17_
        have HO296 := n0_
        have HO309 := n1_
        have BK265 := n2_
        have BK275 := n3_
        have BK284 := n4_
        have BK297 := n5_
        have BK310 := n6_
        have GW310 := n7_
        have GE310 := n8_
        have NB265_310 := n9_
        have NB310_265 := n10_
        have NB275_310 := n11_
        have NB310_275 := n12_
        have NB284_310 := n13_
        have NB310_284 := n14_
        have NB297_310 := n15_
        have NB310_297 := n16_
        have HB := n17_
        clear n0_ n1_ n2_ n3_ n4_ n5_ n6_ n7_ n8_ n9_ n10_ n11_ n12_ n13_ n14_ n15_ n16_ n17_
        have hHeld : w43.cell? ⟨gb265, 0, none⟩ = some (.int .i64 a0_0) ∧ w43.cell? ⟨gb265, 1, none⟩ = some (.int .i64 a0_1) ∧ w43.cell? ⟨gb284, 0, none⟩ = some (.int .i64 x285000_2) ∧ w43.cell? ⟨gb284, 1, none⟩ = some (.int .i64 x285001_2) ∧ w43.cell? ⟨gb284, 2, none⟩ = some (.int .i64 x285002_2) ∧ w43.cell? ⟨gb284, 3, none⟩ = some (.int .i64 x285003_2) ∧ w43.cell? ⟨gb284, 4, none⟩ = some (.int .i64 x285004_2) ∧ w43.cell? ⟨gb284, 5, none⟩ = some (.int .i64 x285005_2) ∧ w43.cell? ⟨gb284, 6, none⟩ = some (.int .i64 x285006_2) ∧ w43.cell? ⟨gb284, 7, none⟩ = some (.string x285007_2) ∧ w43.cell? (ad285.add ((x7_2).toNat * 7)) = some (.int .i64 ((rd_T27 l1 x7_2).f0)) ∧ w43.cell? ⟨(ad285.add ((x7_2).toNat * 7)).block, (ad285.add ((x7_2).toNat * 7)).off + 1, none⟩ = some (.int .i64 ((rd_T27 l1 x7_2).f1)) ∧ w43.cell? ⟨(ad285.add ((x7_2).toNat * 7)).block, (ad285.add ((x7_2).toNat * 7)).off + 2, none⟩ = some (.int .i64 ((rd_T27 l1 x7_2).f2)) ∧ w43.cell? ⟨(ad285.add ((x7_2).toNat * 7)).block, (ad285.add ((x7_2).toNat * 7)).off + 3, none⟩ = some (.int .i64 ((rd_T27 l1 x7_2).f3)) ∧ w43.cell? ⟨(ad285.add ((x7_2).toNat * 7)).block, (ad285.add ((x7_2).toNat * 7)).off + 4, none⟩ = some (.int .i64 ((rd_T27 l1 x7_2).f4)) ∧ w43.cell? ⟨(ad285.add ((x7_2).toNat * 7)).block, (ad285.add ((x7_2).toNat * 7)).off + 5, none⟩ = some (.string ((rd_T27 l1 x7_2).f5)) ∧ w43.cell? ⟨(ad285.add ((x7_2).toNat * 7)).block, (ad285.add ((x7_2).toNat * 7)).off + 6, none⟩ = some (.int .i64 ((rd_T27 l1 x7_2).f6)) := hS_
        refine norm_ (a' := ?_) ?_ ?_
        rotate_left
        ·simp only [putAll, Act.put, List.setIfInBounds_toArray, List.set_cons_zero, List.set_cons_succ]
         rfl
        refine one_ (i := 11) (N := none) #[true, true, true, true, true, true, true, true, true, true, true, true, false] rfl rfl (one_of HT_.out (by kernel_rfl)) (by decide) (fun K hK => ?_)
        have hs44 : w43.cell? ⟨gb310, 0, none⟩ = some (.int .i64 0) := (blk_cell BK310.out 0).trans rfl
        have hfs44 := blk_frozen BK310.out 0
        have hns44_0 := NB265_310.out
        have hns44_1 := NB275_310.out
        have hns44_2 := NB284_310.out
        have hns44_3 := NB297_310.out
        have hms44_0 := NB310_265.out
        have hms44_1 := NB310_275.out
        have hms44_2 := NB310_284.out
        have hms44_3 := NB310_297.out
        have hs45 : w43.cell? ⟨gb310, 1, none⟩ = some (.int .i64 0) := (blk_cell BK310.out 1).trans rfl
        have hfs45 := blk_frozen BK310.out 1
        have hns45_0 := NB265_310.out
        have hns45_1 := NB275_310.out
        have hns45_2 := NB284_310.out
        have hns45_3 := NB297_310.out
        have hms45_0 := NB310_265.out
        have hms45_1 := NB310_275.out
        have hms45_2 := NB310_284.out
        have hms45_3 := NB310_297.out
        have hs46 : w43.cell? ⟨gb310, 2, none⟩ = some (.int .i64 0) := (blk_cell BK310.out 2).trans rfl
        have hfs46 := blk_frozen BK310.out 2
        have hns46_0 := NB265_310.out
        have hns46_1 := NB275_310.out
        have hns46_2 := NB284_310.out
        have hns46_3 := NB297_310.out
        have hms46_0 := NB310_265.out
        have hms46_1 := NB310_275.out
        have hms46_2 := NB310_284.out
        have hms46_3 := NB310_297.out
        have hs47 : w43.cell? ⟨gb310, 3, none⟩ = some (.int .i64 0) := (blk_cell BK310.out 3).trans rfl
        have hfs47 := blk_frozen BK310.out 3
        have hns47_0 := NB265_310.out
        have hns47_1 := NB275_310.out
        have hns47_2 := NB284_310.out
        have hns47_3 := NB297_310.out
        have hms47_0 := NB310_265.out
        have hms47_1 := NB310_275.out
        have hms47_2 := NB310_284.out
        have hms47_3 := NB310_297.out
        have hs48 : w43.cell? ⟨gb310, 4, none⟩ = some (.int .i64 0) := (blk_cell BK310.out 4).trans rfl
        have hfs48 := blk_frozen BK310.out 4
        have hns48_0 := NB265_310.out
        have hns48_1 := NB275_310.out
        have hns48_2 := NB284_310.out
        have hns48_3 := NB297_310.out
        have hms48_0 := NB310_265.out
        have hms48_1 := NB310_275.out
        have hms48_2 := NB310_284.out
        have hms48_3 := NB310_297.out
        have hs49 : w43.cell? ⟨gb310, 5, none⟩ = some (.int .i64 0) := (blk_cell BK310.out 5).trans rfl
        have hfs49 := blk_frozen BK310.out 5
        have hns49_0 := NB265_310.out
        have hns49_1 := NB275_310.out
        have hns49_2 := NB284_310.out
        have hns49_3 := NB297_310.out
        have hms49_0 := NB310_265.out
        have hms49_1 := NB310_275.out
        have hms49_2 := NB310_284.out
        have hms49_3 := NB310_297.out
        have hs50 : w43.cell? ⟨gb310, 6, none⟩ = some (.int .i64 0) := (blk_cell BK310.out 6).trans rfl
        have hfs50 := blk_frozen BK310.out 6
        have hns50_0 := NB265_310.out
        have hns50_1 := NB275_310.out
        have hns50_2 := NB284_310.out
        have hns50_3 := NB297_310.out
        have hms50_0 := NB310_265.out
        have hms50_1 := NB310_275.out
        have hms50_2 := NB310_284.out
        have hms50_3 := NB310_297.out
        have hs51 : w43.cell? ⟨gb310, 7, none⟩ = some (.string (⟨#[]⟩ : ByteArray)) := (blk_cell BK310.out 7).trans rfl
        have hfs51 := blk_frozen BK310.out 7
        have hns51_0 := NB265_310.out
        have hns51_1 := NB275_310.out
        have hns51_2 := NB284_310.out
        have hns51_3 := NB297_310.out
        have hms51_0 := NB310_265.out
        have hms51_1 := NB310_275.out
        have hms51_2 := NB310_284.out
        have hms51_3 := NB310_297.out
        refine skip_ (w1 := ?_) (by rfl) rfl ?_ ?_
        rotate_left
        ·go_simp
         rfl
        refine hK.out _ _ ⟨((far8 (g := gb310) NB265_310.out).trans (hHeld.1)), ((far8 (g := gb310) NB265_310.out).trans (hHeld.2.1)), ((far8 (g := gb310) NB284_310.out).trans (hHeld.2.2.1)), ((far8 (g := gb310) NB284_310.out).trans (hHeld.2.2.2.1)), ((far8 (g := gb310) NB284_310.out).trans (hHeld.2.2.2.2.1)), ((far8 (g := gb310) NB284_310.out).trans (hHeld.2.2.2.2.2.1)), ((far8 (g := gb310) NB284_310.out).trans (hHeld.2.2.2.2.2.2.1)), ((far8 (g := gb310) NB284_310.out).trans (hHeld.2.2.2.2.2.2.2.1)), ((far8 (g := gb310) NB284_310.out).trans (hHeld.2.2.2.2.2.2.2.2.1)), ((far8 (g := gb310) NB284_310.out).trans (hHeld.2.2.2.2.2.2.2.2.2.1)), ((far8 (g := gb310) (by have e_ := Nat.ne_of_lt (Nat.lt_of_lt_of_le (by have := World.block_lt_of_cell? _ _ hw298_0; first | rwa [add_block] at this | exact this) GW310.out); first | exact e_ | (rw [add_block]; exact e_) | (show (Addr.add _ _).block ≠ _; rw [add_block]; exact e_) | (dsimp only; exact e_))).trans (hHeld.2.2.2.2.2.2.2.2.2.2.1)), ((far8 (g := gb310) (by have e_ := Nat.ne_of_lt (Nat.lt_of_lt_of_le (by have := World.block_lt_of_cell? _ _ hw298_1; first | rwa [add_block] at this | exact this) GW310.out); first | exact e_ | (rw [add_block]; exact e_) | (show (Addr.add _ _).block ≠ _; rw [add_block]; exact e_) | (dsimp only; exact e_))).trans (hHeld.2.2.2.2.2.2.2.2.2.2.2.1)), ((far8 (g := gb310) (by have e_ := Nat.ne_of_lt (Nat.lt_of_lt_of_le (by have := World.block_lt_of_cell? _ _ hw298_2; first | rwa [add_block] at this | exact this) GW310.out); first | exact e_ | (rw [add_block]; exact e_) | (show (Addr.add _ _).block ≠ _; rw [add_block]; exact e_) | (dsimp only; exact e_))).trans (hHeld.2.2.2.2.2.2.2.2.2.2.2.2.1)), ((far8 (g := gb310) (by have e_ := Nat.ne_of_lt (Nat.lt_of_lt_of_le (by have := World.block_lt_of_cell? _ _ hw298_3; first | rwa [add_block] at this | exact this) GW310.out); first | exact e_ | (rw [add_block]; exact e_) | (show (Addr.add _ _).block ≠ _; rw [add_block]; exact e_) | (dsimp only; exact e_))).trans (hHeld.2.2.2.2.2.2.2.2.2.2.2.2.2.1)), ((far8 (g := gb310) (by have e_ := Nat.ne_of_lt (Nat.lt_of_lt_of_le (by have := World.block_lt_of_cell? _ _ hw298_4; first | rwa [add_block] at this | exact this) GW310.out); first | exact e_ | (rw [add_block]; exact e_) | (show (Addr.add _ _).block ≠ _; rw [add_block]; exact e_) | (dsimp only; exact e_))).trans (hHeld.2.2.2.2.2.2.2.2.2.2.2.2.2.2.1)), ((far8 (g := gb310) (by have e_ := Nat.ne_of_lt (Nat.lt_of_lt_of_le (by have := World.block_lt_of_cell? _ _ hw298_5; first | rwa [add_block] at this | exact this) GW310.out); first | exact e_ | (rw [add_block]; exact e_) | (show (Addr.add _ _).block ≠ _; rw [add_block]; exact e_) | (dsimp only; exact e_))).trans (hHeld.2.2.2.2.2.2.2.2.2.2.2.2.2.2.2.1)), ((far8 (g := gb310) (by have e_ := Nat.ne_of_lt (Nat.lt_of_lt_of_le (by have := World.block_lt_of_cell? _ _ hw298_6; first | rwa [add_block] at this | exact this) GW310.out); first | exact e_ | (rw [add_block]; exact e_) | (show (Addr.add _ _).block ≠ _; rw [add_block]; exact e_) | (dsimp only; exact e_))).trans (hHeld.2.2.2.2.2.2.2.2.2.2.2.2.2.2.2.2))⟩ (fun hHeld => ?_)
        clear hK K
        refine pstep 12 (some 11) #[true, true, true, true, true, true, true, true, true, true, true, true, true] HT_.out ?_
        refine done_ (done_of HT_.out (by kernel_rfl)) ?_
        obtain ⟨Ao52, co52, eo52⟩ := Kd.R_slice HO296.out
        subst eo52
        obtain ⟨Ao53, co53, eo53⟩ := Kd.R_slice HO309.out
        subst eo53
        try go_wp2_with (first | ((with_reducible refine gate_callee (f := 19) rfl ?_); refine goesL_ (some 48) rfl rfl Try.func19 (by kernel_rfl) rfl #[.slice Ao52 t294.length co52, .slice Ao53 t307.length co53] rfl (by (try simp only [List.map_toArray, List.map_cons, List.map_nil]); first | done | rfl | (simp only [List.length_drop, List.length_take]; rfl)) ?_; (with_reducible refine (signalbenchref07_Same.calls k2 _ _ t294 _ _ t307 true _ ?side1 ?side2 ?side3 ?side4 A25.out).mono ?_); (case side1 => refine (Kd.R_reads' (e := 27) (base := w.heap.size) (ok := fun k_ => some k_ ≠ (.slice Ao53 t307.length co53 : Value).ownBlock) (n := t294.length) (c := co52) ?_).2.2; exact (by (with_reducible repeat (first | apply Kd.R_alloc | apply Kd.R_drewN | apply Kd.R_drew)); exact (Kd.R_mono (Kd.R_far (p := ⟨gb310, 7, none⟩) (Kd.R_far (p := ⟨gb310, 6, none⟩) (Kd.R_far (p := ⟨gb310, 5, none⟩) (Kd.R_far (p := ⟨gb310, 4, none⟩) (Kd.R_far (p := ⟨gb310, 3, none⟩) (Kd.R_far (p := ⟨gb310, 2, none⟩) (Kd.R_far (p := ⟨gb310, 1, none⟩) (Kd.R_far (p := ⟨gb310, 0, none⟩) (Kd.R_types HO296.out BK310.out (by decide)) (fun _ hk => hk.2) (.int .i64 t299)) (fun _ hk => hk.2) (.int .i64 t300)) (fun _ hk => hk.2) (.int .i64 t301)) (fun _ hk => hk.2) (.int .i64 t302)) (fun _ hk => hk.2) (.int .i64 t303)) (fun _ hk => hk.2) (.int .i64 t304)) (fun _ hk => hk.2) (.int .i64 t305)) (fun _ hk => hk.2) (.string t306)) (fun _ h_ => h_.1)))); (case side2 => exact (Kd.R_reads' HO296.out).2.1); (case side3 => refine (Kd.R_reads' (e := 27) (base := w.heap.size) (ok := fun k_ => some k_ ≠ (.slice Ao52 t294.length co52 : Value).ownBlock) (n := t307.length) (c := co53) ?_).2.2; exact (by (with_reducible repeat (first | apply Kd.R_alloc | apply Kd.R_drewN | apply Kd.R_drew)); exact (Kd.R_mono (Kd.R_far (p := ⟨gb310, 7, none⟩) (Kd.R_far (p := ⟨gb310, 6, none⟩) (Kd.R_far (p := ⟨gb310, 5, none⟩) (Kd.R_far (p := ⟨gb310, 4, none⟩) (Kd.R_far (p := ⟨gb310, 3, none⟩) (Kd.R_far (p := ⟨gb310, 2, none⟩) (Kd.R_far (p := ⟨gb310, 1, none⟩) (Kd.R_far (p := ⟨gb310, 0, none⟩) (Kd.R_types HO309.out BK310.out (by decide)) (fun _ hk => hk.2) (.int .i64 t299)) (fun _ hk => hk.2) (.int .i64 t300)) (fun _ hk => hk.2) (.int .i64 t301)) (fun _ hk => hk.2) (.int .i64 t302)) (fun _ hk => hk.2) (.int .i64 t303)) (fun _ hk => hk.2) (.int .i64 t304)) (fun _ hk => hk.2) (.int .i64 t305)) (fun _ hk => hk.2) (.string t306)) (fun _ h_ => h_.1)))); (case side4 => exact (Kd.R_reads' HO309.out).2.1); rintro e w' ⟨rfl, ⟨nd, rfl⟩⟩; refine ⟨_, rfl, ?_⟩; have hnb54 := NB297_265.out; have hnc54 := NB265_297.out; have hnb55 := NB297_275.out; have hnc55 := NB275_297.out; have hnb56 := NB297_284.out; have hnc56 := NB284_297.out; have hnb57 := NB297_310.out; have hnc57 := NB310_297.out; have hcz58_0 : w43.cell? ⟨gb297, 0, none⟩ = some (.int .i64 t286) := (blk_cell BK297.out 0).trans rfl; have hcz58_1 : w43.cell? ⟨gb297, 1, none⟩ = some (.int .i64 t287) := (blk_cell BK297.out 1).trans rfl; have hcz58_2 : w43.cell? ⟨gb297, 2, none⟩ = some (.int .i64 t288) := (blk_cell BK297.out 2).trans rfl; have hcz58_3 : w43.cell? ⟨gb297, 3, none⟩ = some (.int .i64 t289) := (blk_cell BK297.out 3).trans rfl; have hcz58_4 : w43.cell? ⟨gb297, 4, none⟩ = some (.int .i64 t290) := (blk_cell BK297.out 4).trans rfl; have hcz58_5 : w43.cell? ⟨gb297, 5, none⟩ = some (.int .i64 t291) := (blk_cell BK297.out 5).trans rfl; have hcz58_6 : w43.cell? ⟨gb297, 6, none⟩ = some (.int .i64 t292) := (blk_cell BK297.out 6).trans rfl; have hcz58_7 : w43.cell? ⟨gb297, 7, none⟩ = some (.string t293) := (blk_cell BK297.out 7).trans rfl; have hfz58_0 := blk_frozen BK297.out 0; have hfz58_1 := blk_frozen BK297.out 1; have hfz58_2 := blk_frozen BK297.out 2; have hfz58_3 := blk_frozen BK297.out 3; have hfz58_4 := blk_frozen BK297.out 4; have hfz58_5 := blk_frozen BK297.out 5; have hfz58_6 := blk_frozen BK297.out 6; have hfz58_7 := blk_frozen BK297.out 7; have hnb59 := NB275_265.out; have hnc59 := NB265_275.out; have hnb60 := NB275_284.out; have hnc60 := NB284_275.out; have hnb61 := NB275_310.out; have hnc61 := NB310_275.out; have hcz62_0 : w43.cell? ⟨gb275, 0, none⟩ = some (.int .i64 x276000_2) := (blk_cell BK275.out 0).trans rfl; have hcz62_1 : w43.cell? ⟨gb275, 1, none⟩ = some (.int .i64 x276001_2) := (blk_cell BK275.out 1).trans rfl; have hcz62_2 : w43.cell? ⟨gb275, 2, none⟩ = some (.int .i64 x276002_2) := (blk_cell BK275.out 2).trans rfl; have hcz62_3 : w43.cell? ⟨gb275, 3, none⟩ = some (.int .i64 x276003_2) := (blk_cell BK275.out 3).trans rfl; have hcz62_4 : w43.cell? ⟨gb275, 4, none⟩ = some (.int .i64 x276004_2) := (blk_cell BK275.out 4).trans rfl; have hcz62_5 : w43.cell? ⟨gb275, 5, none⟩ = some (.int .i64 x276005_2) := (blk_cell BK275.out 5).trans rfl; have hcz62_6 : w43.cell? ⟨gb275, 6, none⟩ = some (.int .i64 x276006_2) := (blk_cell BK275.out 6).trans rfl; have hcz62_7 : w43.cell? ⟨gb275, 7, none⟩ = some (.string x276007_2) := (blk_cell BK275.out 7).trans rfl; have hfz62_0 := blk_frozen BK275.out 0; have hfz62_1 := blk_frozen BK275.out 1; have hfz62_2 := blk_frozen BK275.out 2; have hfz62_3 := blk_frozen BK275.out 3; have hfz62_4 := blk_frozen BK275.out 4; have hfz62_5 := blk_frozen BK275.out 5; have hfz62_6 := blk_frozen BK275.out 6; have hfz62_7 := blk_frozen BK275.out 7; have hnb63 := NB310_265.out; have hnc63 := NB265_310.out; have hnb64 := NB310_284.out; have hnc64 := NB284_310.out; have hcz65_0 : w43.cell? ⟨gb310, 0, none⟩ = some (.int .i64 0) := (blk_cell BK310.out 0).trans rfl; have hcz65_1 : w43.cell? ⟨gb310, 1, none⟩ = some (.int .i64 0) := (blk_cell BK310.out 1).trans rfl; have hcz65_2 : w43.cell? ⟨gb310, 2, none⟩ = some (.int .i64 0) := (blk_cell BK310.out 2).trans rfl; have hcz65_3 : w43.cell? ⟨gb310, 3, none⟩ = some (.int .i64 0) := (blk_cell BK310.out 3).trans rfl; have hcz65_4 : w43.cell? ⟨gb310, 4, none⟩ = some (.int .i64 0) := (blk_cell BK310.out 4).trans rfl; have hcz65_5 : w43.cell? ⟨gb310, 5, none⟩ = some (.int .i64 0) := (blk_cell BK310.out 5).trans rfl; have hcz65_6 : w43.cell? ⟨gb310, 6, none⟩ = some (.int .i64 0) := (blk_cell BK310.out 6).trans rfl; have hcz65_7 : w43.cell? ⟨gb310, 7, none⟩ = some (.string (⟨#[]⟩ : ByteArray)) := (blk_cell BK310.out 7).trans rfl; have hfz65_0 := blk_frozen BK310.out 0; have hfz65_1 := blk_frozen BK310.out 1; have hfz65_2 := blk_frozen BK310.out 2; have hfz65_3 := blk_frozen BK310.out 3; have hfz65_4 := blk_frozen BK310.out 4; have hfz65_5 := blk_frozen BK310.out 5; have hfz65_6 := blk_frozen BK310.out 6; have hfz65_7 := blk_frozen BK310.out 7; have hnb66 := NB284_265.out; have hnc66 := NB265_284.out; have hcz67_0 : w43.cell? ⟨gb284, 0, none⟩ = some (.int .i64 x285000_2) := (blk_cell BK284.out 0).trans rfl; have hcz67_1 : w43.cell? ⟨gb284, 1, none⟩ = some (.int .i64 x285001_2) := (blk_cell BK284.out 1).trans rfl; have hcz67_2 : w43.cell? ⟨gb284, 2, none⟩ = some (.int .i64 x285002_2) := (blk_cell BK284.out 2).trans rfl; have hcz67_3 : w43.cell? ⟨gb284, 3, none⟩ = some (.int .i64 x285003_2) := (blk_cell BK284.out 3).trans rfl; have hcz67_4 : w43.cell? ⟨gb284, 4, none⟩ = some (.int .i64 x285004_2) := (blk_cell BK284.out 4).trans rfl; have hcz67_5 : w43.cell? ⟨gb284, 5, none⟩ = some (.int .i64 x285005_2) := (blk_cell BK284.out 5).trans rfl; have hcz67_6 : w43.cell? ⟨gb284, 6, none⟩ = some (.int .i64 x285006_2) := (blk_cell BK284.out 6).trans rfl; have hcz67_7 : w43.cell? ⟨gb284, 7, none⟩ = some (.string x285007_2) := (blk_cell BK284.out 7).trans rfl; have hfz67_0 := blk_frozen BK284.out 0; have hfz67_1 := blk_frozen BK284.out 1; have hfz67_2 := blk_frozen BK284.out 2; have hfz67_3 := blk_frozen BK284.out 3; have hfz67_4 := blk_frozen BK284.out 4; have hfz67_5 := blk_frozen BK284.out 5; have hfz67_6 := blk_frozen BK284.out 6; have hfz67_7 := blk_frozen BK284.out 7))
        go_roundg k2
        case measure => have := HJ2.out; have := HK2.out; omega
        case rel => exact ⟨(wrap64 (x7_2 + 1)), (t286), (t287), (t288), (t289), (t290), (t291), (t292), (t293), (t299), (t300), (t301), (t302), (t303), (t304), (t305), (t306), (by first | rfl | (simp; done) | (simp [*]; done)), H', ⟨by have := HJ2.out; have := HK2.out; omega⟩, ⟨by (with_reducible repeat (first | refine blk_drewN ?_ _ | refine blk_drew ?_ | refine blk_alloc ?_ _)); refine blk_far ?_ NB265_284.out _; (with_reducible repeat (first | refine blk_drewN ?_ _ | refine blk_drew ?_ | refine blk_alloc ?_ _)); refine blk_far ?_ NB265_284.out _; (with_reducible repeat (first | refine blk_drewN ?_ _ | refine blk_drew ?_ | refine blk_alloc ?_ _)); refine blk_far ?_ NB265_284.out _; (with_reducible repeat (first | refine blk_drewN ?_ _ | refine blk_drew ?_ | refine blk_alloc ?_ _)); refine blk_far ?_ NB265_284.out _; (with_reducible repeat (first | refine blk_drewN ?_ _ | refine blk_drew ?_ | refine blk_alloc ?_ _)); refine blk_far ?_ NB265_284.out _; (with_reducible repeat (first | refine blk_drewN ?_ _ | refine blk_drew ?_ | refine blk_alloc ?_ _)); refine blk_far ?_ NB265_284.out _; (with_reducible repeat (first | refine blk_drewN ?_ _ | refine blk_drew ?_ | refine blk_alloc ?_ _)); refine blk_far ?_ NB265_284.out _; (with_reducible repeat (first | refine blk_drewN ?_ _ | refine blk_drew ?_ | refine blk_alloc ?_ _)); refine blk_far ?_ NB265_284.out _; (with_reducible repeat (first | refine blk_drewN ?_ _ | refine blk_drew ?_ | refine blk_alloc ?_ _)); refine blk_far ?_ NB265_275.out _; (with_reducible repeat (first | refine blk_drewN ?_ _ | refine blk_drew ?_ | refine blk_alloc ?_ _)); refine blk_far ?_ NB265_275.out _; (with_reducible repeat (first | refine blk_drewN ?_ _ | refine blk_drew ?_ | refine blk_alloc ?_ _)); refine blk_far ?_ NB265_275.out _; (with_reducible repeat (first | refine blk_drewN ?_ _ | refine blk_drew ?_ | refine blk_alloc ?_ _)); refine blk_far ?_ NB265_275.out _; (with_reducible repeat (first | refine blk_drewN ?_ _ | refine blk_drew ?_ | refine blk_alloc ?_ _)); refine blk_far ?_ NB265_275.out _; (with_reducible repeat (first | refine blk_drewN ?_ _ | refine blk_drew ?_ | refine blk_alloc ?_ _)); refine blk_far ?_ NB265_275.out _; (with_reducible repeat (first | refine blk_drewN ?_ _ | refine blk_drew ?_ | refine blk_alloc ?_ _)); refine blk_far ?_ NB265_275.out _; (with_reducible repeat (first | refine blk_drewN ?_ _ | refine blk_drew ?_ | refine blk_alloc ?_ _)); refine blk_far ?_ NB265_275.out _; (with_reducible repeat (first | refine blk_drewN ?_ _ | refine blk_drew ?_ | refine blk_alloc ?_ _)); refine blk_far ?_ NB265_310.out _; (with_reducible repeat (first | refine blk_drewN ?_ _ | refine blk_drew ?_ | refine blk_alloc ?_ _)); refine blk_far ?_ NB265_310.out _; (with_reducible repeat (first | refine blk_drewN ?_ _ | refine blk_drew ?_ | refine blk_alloc ?_ _)); refine blk_far ?_ NB265_310.out _; (with_reducible repeat (first | refine blk_drewN ?_ _ | refine blk_drew ?_ | refine blk_alloc ?_ _)); refine blk_far ?_ NB265_310.out _; (with_reducible repeat (first | refine blk_drewN ?_ _ | refine blk_drew ?_ | refine blk_alloc ?_ _)); refine blk_far ?_ NB265_310.out _; (with_reducible repeat (first | refine blk_drewN ?_ _ | refine blk_drew ?_ | refine blk_alloc ?_ _)); refine blk_far ?_ NB265_310.out _; (with_reducible repeat (first | refine blk_drewN ?_ _ | refine blk_drew ?_ | refine blk_alloc ?_ _)); refine blk_far ?_ NB265_310.out _; (with_reducible repeat (first | refine blk_drewN ?_ _ | refine blk_drew ?_ | refine blk_alloc ?_ _)); refine blk_far ?_ NB265_310.out _; (with_reducible repeat (first | refine blk_drewN ?_ _ | refine blk_drew ?_ | refine blk_alloc ?_ _)); exact BK265.out⟩, ⟨by (with_reducible repeat (first | refine blk_drewN ?_ _ | refine blk_drew ?_ | refine blk_alloc ?_ _)); refine blk_far ?_ NB275_284.out _; (with_reducible repeat (first | refine blk_drewN ?_ _ | refine blk_drew ?_ | refine blk_alloc ?_ _)); refine blk_far ?_ NB275_284.out _; (with_reducible repeat (first | refine blk_drewN ?_ _ | refine blk_drew ?_ | refine blk_alloc ?_ _)); refine blk_far ?_ NB275_284.out _; (with_reducible repeat (first | refine blk_drewN ?_ _ | refine blk_drew ?_ | refine blk_alloc ?_ _)); refine blk_far ?_ NB275_284.out _; (with_reducible repeat (first | refine blk_drewN ?_ _ | refine blk_drew ?_ | refine blk_alloc ?_ _)); refine blk_far ?_ NB275_284.out _; (with_reducible repeat (first | refine blk_drewN ?_ _ | refine blk_drew ?_ | refine blk_alloc ?_ _)); refine blk_far ?_ NB275_284.out _; (with_reducible repeat (first | refine blk_drewN ?_ _ | refine blk_drew ?_ | refine blk_alloc ?_ _)); refine blk_far ?_ NB275_284.out _; (with_reducible repeat (first | refine blk_drewN ?_ _ | refine blk_drew ?_ | refine blk_alloc ?_ _)); refine blk_far ?_ NB275_284.out _; (with_reducible repeat (first | refine blk_drewN ?_ _ | refine blk_drew ?_ | refine blk_alloc ?_ _)); refine blk_put (cs := #[.int .i64 t286, .int .i64 t287, .int .i64 t288, .int .i64 t289, .int .i64 t290, .int .i64 t291, .int .i64 t292, .string x276007_2]) ?_ 7 _ rfl; (with_reducible repeat (first | refine blk_drewN ?_ _ | refine blk_drew ?_ | refine blk_alloc ?_ _)); refine blk_put (cs := #[.int .i64 t286, .int .i64 t287, .int .i64 t288, .int .i64 t289, .int .i64 t290, .int .i64 t291, .int .i64 x276006_2, .string x276007_2]) ?_ 6 _ rfl; (with_reducible repeat (first | refine blk_drewN ?_ _ | refine blk_drew ?_ | refine blk_alloc ?_ _)); refine blk_put (cs := #[.int .i64 t286, .int .i64 t287, .int .i64 t288, .int .i64 t289, .int .i64 t290, .int .i64 x276005_2, .int .i64 x276006_2, .string x276007_2]) ?_ 5 _ rfl; (with_reducible repeat (first | refine blk_drewN ?_ _ | refine blk_drew ?_ | refine blk_alloc ?_ _)); refine blk_put (cs := #[.int .i64 t286, .int .i64 t287, .int .i64 t288, .int .i64 t289, .int .i64 x276004_2, .int .i64 x276005_2, .int .i64 x276006_2, .string x276007_2]) ?_ 4 _ rfl; (with_reducible repeat (first | refine blk_drewN ?_ _ | refine blk_drew ?_ | refine blk_alloc ?_ _)); refine blk_put (cs := #[.int .i64 t286, .int .i64 t287, .int .i64 t288, .int .i64 x276003_2, .int .i64 x276004_2, .int .i64 x276005_2, .int .i64 x276006_2, .string x276007_2]) ?_ 3 _ rfl; (with_reducible repeat (first | refine blk_drewN ?_ _ | refine blk_drew ?_ | refine blk_alloc ?_ _)); refine blk_put (cs := #[.int .i64 t286, .int .i64 t287, .int .i64 x276002_2, .int .i64 x276003_2, .int .i64 x276004_2, .int .i64 x276005_2, .int .i64 x276006_2, .string x276007_2]) ?_ 2 _ rfl; (with_reducible repeat (first | refine blk_drewN ?_ _ | refine blk_drew ?_ | refine blk_alloc ?_ _)); refine blk_put (cs := #[.int .i64 t286, .int .i64 x276001_2, .int .i64 x276002_2, .int .i64 x276003_2, .int .i64 x276004_2, .int .i64 x276005_2, .int .i64 x276006_2, .string x276007_2]) ?_ 1 _ rfl; (with_reducible repeat (first | refine blk_drewN ?_ _ | refine blk_drew ?_ | refine blk_alloc ?_ _)); refine blk_put (cs := #[.int .i64 x276000_2, .int .i64 x276001_2, .int .i64 x276002_2, .int .i64 x276003_2, .int .i64 x276004_2, .int .i64 x276005_2, .int .i64 x276006_2, .string x276007_2]) ?_ 0 _ rfl; (with_reducible repeat (first | refine blk_drewN ?_ _ | refine blk_drew ?_ | refine blk_alloc ?_ _)); refine blk_far ?_ NB275_310.out _; (with_reducible repeat (first | refine blk_drewN ?_ _ | refine blk_drew ?_ | refine blk_alloc ?_ _)); refine blk_far ?_ NB275_310.out _; (with_reducible repeat (first | refine blk_drewN ?_ _ | refine blk_drew ?_ | refine blk_alloc ?_ _)); refine blk_far ?_ NB275_310.out _; (with_reducible repeat (first | refine blk_drewN ?_ _ | refine blk_drew ?_ | refine blk_alloc ?_ _)); refine blk_far ?_ NB275_310.out _; (with_reducible repeat (first | refine blk_drewN ?_ _ | refine blk_drew ?_ | refine blk_alloc ?_ _)); refine blk_far ?_ NB275_310.out _; (with_reducible repeat (first | refine blk_drewN ?_ _ | refine blk_drew ?_ | refine blk_alloc ?_ _)); refine blk_far ?_ NB275_310.out _; (with_reducible repeat (first | refine blk_drewN ?_ _ | refine blk_drew ?_ | refine blk_alloc ?_ _)); refine blk_far ?_ NB275_310.out _; (with_reducible repeat (first | refine blk_drewN ?_ _ | refine blk_drew ?_ | refine blk_alloc ?_ _)); refine blk_far ?_ NB275_310.out _; (with_reducible repeat (first | refine blk_drewN ?_ _ | refine blk_drew ?_ | refine blk_alloc ?_ _)); exact BK275.out⟩, ⟨by (with_reducible repeat (first | refine blk_drewN ?_ _ | refine blk_drew ?_ | refine blk_alloc ?_ _)); refine blk_put (cs := #[.int .i64 t299, .int .i64 t300, .int .i64 t301, .int .i64 t302, .int .i64 t303, .int .i64 t304, .int .i64 t305, .string x285007_2]) ?_ 7 _ rfl; (with_reducible repeat (first | refine blk_drewN ?_ _ | refine blk_drew ?_ | refine blk_alloc ?_ _)); refine blk_put (cs := #[.int .i64 t299, .int .i64 t300, .int .i64 t301, .int .i64 t302, .int .i64 t303, .int .i64 t304, .int .i64 x285006_2, .string x285007_2]) ?_ 6 _ rfl; (with_reducible repeat (first | refine blk_drewN ?_ _ | refine blk_drew ?_ | refine blk_alloc ?_ _)); refine blk_put (cs := #[.int .i64 t299, .int .i64 t300, .int .i64 t301, .int .i64 t302, .int .i64 t303, .int .i64 x285005_2, .int .i64 x285006_2, .string x285007_2]) ?_ 5 _ rfl; (with_reducible repeat (first | refine blk_drewN ?_ _ | refine blk_drew ?_ | refine blk_alloc ?_ _)); refine blk_put (cs := #[.int .i64 t299, .int .i64 t300, .int .i64 t301, .int .i64 t302, .int .i64 x285004_2, .int .i64 x285005_2, .int .i64 x285006_2, .string x285007_2]) ?_ 4 _ rfl; (with_reducible repeat (first | refine blk_drewN ?_ _ | refine blk_drew ?_ | refine blk_alloc ?_ _)); refine blk_put (cs := #[.int .i64 t299, .int .i64 t300, .int .i64 t301, .int .i64 x285003_2, .int .i64 x285004_2, .int .i64 x285005_2, .int .i64 x285006_2, .string x285007_2]) ?_ 3 _ rfl; (with_reducible repeat (first | refine blk_drewN ?_ _ | refine blk_drew ?_ | refine blk_alloc ?_ _)); refine blk_put (cs := #[.int .i64 t299, .int .i64 t300, .int .i64 x285002_2, .int .i64 x285003_2, .int .i64 x285004_2, .int .i64 x285005_2, .int .i64 x285006_2, .string x285007_2]) ?_ 2 _ rfl; (with_reducible repeat (first | refine blk_drewN ?_ _ | refine blk_drew ?_ | refine blk_alloc ?_ _)); refine blk_put (cs := #[.int .i64 t299, .int .i64 x285001_2, .int .i64 x285002_2, .int .i64 x285003_2, .int .i64 x285004_2, .int .i64 x285005_2, .int .i64 x285006_2, .string x285007_2]) ?_ 1 _ rfl; (with_reducible repeat (first | refine blk_drewN ?_ _ | refine blk_drew ?_ | refine blk_alloc ?_ _)); refine blk_put (cs := #[.int .i64 x285000_2, .int .i64 x285001_2, .int .i64 x285002_2, .int .i64 x285003_2, .int .i64 x285004_2, .int .i64 x285005_2, .int .i64 x285006_2, .string x285007_2]) ?_ 0 _ rfl; (with_reducible repeat (first | refine blk_drewN ?_ _ | refine blk_drew ?_ | refine blk_alloc ?_ _)); refine blk_far ?_ NB284_275.out _; (with_reducible repeat (first | refine blk_drewN ?_ _ | refine blk_drew ?_ | refine blk_alloc ?_ _)); refine blk_far ?_ NB284_275.out _; (with_reducible repeat (first | refine blk_drewN ?_ _ | refine blk_drew ?_ | refine blk_alloc ?_ _)); refine blk_far ?_ NB284_275.out _; (with_reducible repeat (first | refine blk_drewN ?_ _ | refine blk_drew ?_ | refine blk_alloc ?_ _)); refine blk_far ?_ NB284_275.out _; (with_reducible repeat (first | refine blk_drewN ?_ _ | refine blk_drew ?_ | refine blk_alloc ?_ _)); refine blk_far ?_ NB284_275.out _; (with_reducible repeat (first | refine blk_drewN ?_ _ | refine blk_drew ?_ | refine blk_alloc ?_ _)); refine blk_far ?_ NB284_275.out _; (with_reducible repeat (first | refine blk_drewN ?_ _ | refine blk_drew ?_ | refine blk_alloc ?_ _)); refine blk_far ?_ NB284_275.out _; (with_reducible repeat (first | refine blk_drewN ?_ _ | refine blk_drew ?_ | refine blk_alloc ?_ _)); refine blk_far ?_ NB284_275.out _; (with_reducible repeat (first | refine blk_drewN ?_ _ | refine blk_drew ?_ | refine blk_alloc ?_ _)); refine blk_far ?_ NB284_310.out _; (with_reducible repeat (first | refine blk_drewN ?_ _ | refine blk_drew ?_ | refine blk_alloc ?_ _)); refine blk_far ?_ NB284_310.out _; (with_reducible repeat (first | refine blk_drewN ?_ _ | refine blk_drew ?_ | refine blk_alloc ?_ _)); refine blk_far ?_ NB284_310.out _; (with_reducible repeat (first | refine blk_drewN ?_ _ | refine blk_drew ?_ | refine blk_alloc ?_ _)); refine blk_far ?_ NB284_310.out _; (with_reducible repeat (first | refine blk_drewN ?_ _ | refine blk_drew ?_ | refine blk_alloc ?_ _)); refine blk_far ?_ NB284_310.out _; (with_reducible repeat (first | refine blk_drewN ?_ _ | refine blk_drew ?_ | refine blk_alloc ?_ _)); refine blk_far ?_ NB284_310.out _; (with_reducible repeat (first | refine blk_drewN ?_ _ | refine blk_drew ?_ | refine blk_alloc ?_ _)); refine blk_far ?_ NB284_310.out _; (with_reducible repeat (first | refine blk_drewN ?_ _ | refine blk_drew ?_ | refine blk_alloc ?_ _)); refine blk_far ?_ NB284_310.out _; (with_reducible repeat (first | refine blk_drewN ?_ _ | refine blk_drew ?_ | refine blk_alloc ?_ _)); exact BK284.out⟩, ⟨by repeat (first | (with_reducible first | exact HB.out | apply below_alloc | apply pw_below_drewN | apply below_drew1 | refine below_set ?_ GE265.out | refine below_set ?_ GE275.out | refine below_set ?_ GE284.out | refine below_set ?_ GE297.out | refine below_set ?_ GE310.out) | exact HB.out)⟩⟩
       ·replace c26 := Bool.eq_false_iff.mpr c26
        subst c26
        have H1 : (some false) = some r := by rw [if_neg (show ¬ (false = true) by decide)] at H; exact H
        clear H
        have H := H1
        clear H1
        obtain rfl := Option.some.inj H
        try go_wp2
        have n0_ := Aside0.mk (blk_drew BK265.out)
        have n1_ := Aside0.mk (blk_drew BK275.out)
        have n2_ := Aside0.mk (blk_drew BK284.out)
        have n3_ := Aside0.mk (below_drew1 HB.out)
        clear BK265
        clear BK275
        clear BK284
        clear HB
        have BK265 := n0_
        have BK275 := n1_
        have BK284 := n2_
        have HB := n3_
        clear n0_ n1_ n2_ n3_
        have p285 : 0 ≤ (x7_2 : Int) := of_decide_eq_true (by first | (with_reducible assumption) | assumption)
        have q285 : x7_2 < (l1.length : Int) := of_decide_eq_true (by first | (with_reducible assumption) | assumption)
        obtain ⟨ad285, e285, hx285_0, hx285_1, hx285_2, hx285_3, hx285_4, hx285_5, hx285_6⟩ := at_T27 HR1.out x7_2 p285 q285
        have hw285_6 := hx285_6
        have hw285_5 := hx285_5
        have hw285_4 := hx285_4
        have hw285_3 := hx285_3
        have hw285_2 := hx285_2
        have hw285_1 := hx285_1
        have hw285_0 := hx285_0
        cases e285
        replace hx285_0 := (HB.out.cell (World.block_lt_of_cell? w _ hx285_0)).trans hx285_0
        replace hx285_1 := (HB.out.cell (World.block_lt_of_cell? w _ hx285_1)).trans hx285_1
        replace hx285_2 := (HB.out.cell (World.block_lt_of_cell? w _ hx285_2)).trans hx285_2
        replace hx285_3 := (HB.out.cell (World.block_lt_of_cell? w _ hx285_3)).trans hx285_3
        replace hx285_4 := (HB.out.cell (World.block_lt_of_cell? w _ hx285_4)).trans hx285_4
        replace hx285_5 := (HB.out.cell (World.block_lt_of_cell? w _ hx285_5)).trans hx285_5
        replace hx285_6 := (HB.out.cell (World.block_lt_of_cell? w _ hx285_6)).trans hx285_6
        replace p285 := eq_true p285
        replace q285 := eq_true q285
        refine start_ (n := 13) (S := fun w' => w'.cell? ⟨gb265, 0, none⟩ = some (.int .i64 a0_0) ∧ w'.cell? ⟨gb265, 1, none⟩ = some (.int .i64 a0_1) ∧ w'.cell? ⟨gb275, 0, none⟩ = some (.int .i64 x276000_2) ∧ w'.cell? ⟨gb275, 1, none⟩ = some (.int .i64 x276001_2) ∧ w'.cell? ⟨gb275, 2, none⟩ = some (.int .i64 x276002_2) ∧ w'.cell? ⟨gb275, 3, none⟩ = some (.int .i64 x276003_2) ∧ w'.cell? ⟨gb275, 4, none⟩ = some (.int .i64 x276004_2) ∧ w'.cell? ⟨gb275, 5, none⟩ = some (.int .i64 x276005_2) ∧ w'.cell? ⟨gb275, 6, none⟩ = some (.int .i64 x276006_2) ∧ w'.cell? ⟨gb275, 7, none⟩ = some (.string x276007_2) ∧ w'.cell? (ad285.add ((x7_2).toNat * 7)) = some (.int .i64 ((rd_T27 l1 x7_2).f0)) ∧ w'.cell? ⟨(ad285.add ((x7_2).toNat * 7)).block, (ad285.add ((x7_2).toNat * 7)).off + 1, none⟩ = some (.int .i64 ((rd_T27 l1 x7_2).f1)) ∧ w'.cell? ⟨(ad285.add ((x7_2).toNat * 7)).block, (ad285.add ((x7_2).toNat * 7)).off + 2, none⟩ = some (.int .i64 ((rd_T27 l1 x7_2).f2)) ∧ w'.cell? ⟨(ad285.add ((x7_2).toNat * 7)).block, (ad285.add ((x7_2).toNat * 7)).off + 3, none⟩ = some (.int .i64 ((rd_T27 l1 x7_2).f3)) ∧ w'.cell? ⟨(ad285.add ((x7_2).toNat * 7)).block, (ad285.add ((x7_2).toNat * 7)).off + 4, none⟩ = some (.int .i64 ((rd_T27 l1 x7_2).f4)) ∧ w'.cell? ⟨(ad285.add ((x7_2).toNat * 7)).block, (ad285.add ((x7_2).toNat * 7)).off + 5, none⟩ = some (.string ((rd_T27 l1 x7_2).f5)) ∧ w'.cell? ⟨(ad285.add ((x7_2).toNat * 7)).block, (ad285.add ((x7_2).toNat * 7)).off + 6, none⟩ = some (.int .i64 ((rd_T27 l1 x7_2).f6))) (ds := []) #[false, false, false, false, false, false, false, false, false, false, false, false, false] (by kernel_rfl) rfl rfl ⟨(blk_cell BK265.out 0).trans rfl, (blk_cell BK265.out 1).trans rfl, (blk_cell BK275.out 0).trans rfl, (blk_cell BK275.out 1).trans rfl, (blk_cell BK275.out 2).trans rfl, (blk_cell BK275.out 3).trans rfl, (blk_cell BK275.out 4).trans rfl, (blk_cell BK275.out 5).trans rfl, (blk_cell BK275.out 6).trans rfl, (blk_cell BK275.out 7).trans rfl, ((HB.out.cell (World.block_lt_of_cell? w _ hw285_0)).trans hw285_0), ((HB.out.cell (World.block_lt_of_cell? w _ hw285_1)).trans hw285_1), ((HB.out.cell (World.block_lt_of_cell? w _ hw285_2)).trans hw285_2), ((HB.out.cell (World.block_lt_of_cell? w _ hw285_3)).trans hw285_3), ((HB.out.cell (World.block_lt_of_cell? w _ hw285_4)).trans hw285_4), ((HB.out.cell (World.block_lt_of_cell? w _ hw285_5)).trans hw285_5), ((HB.out.cell (World.block_lt_of_cell? w _ hw285_6)).trans hw285_6)⟩ (fun hHeld => ?_); refine with_tabW signalbenchlaw20_ScrambleDecodes.tab8 signalbenchlaw20_ScrambleDecodes.bits8 (fun HT_ HW_ => ?_)
        generalize wr.drew = w68 at BK265 BK275 BK284 HB hx285_0 hx285_1 hx285_2 hx285_3 hx285_4 hx285_5 hx285_6 hHeld ⊢
        refine pstep 2 (some 29) #[false, false, true, false, false, false, false, false, false, false, false, false, false] HT_.out ?_
        refine pstep 3 (some 30) #[false, false, true, true, false, false, false, false, false, false, false, false, false] HT_.out ?_
        refine pstep 4 (some 31) #[false, false, true, true, true, false, false, false, false, false, false, false, false] HT_.out ?_
        refine take_ (i := 0) (N := some 27) (v := ?_) (a' := ?_) #[true, false, true, true, true, false, false, false, false, false, false, false, false] rfl rfl (take_ofW HT_.out HW_.out (by kernel_rfl)) (fun _ _ _ h => h) (Or.inl ⟨by rfl, ?_⟩) hHeld ?_ ?_
        rotate_left
        ·rintro w' ⟨s0, s1, s2, s3, s4, s5, s6, s7, s8, s9, s10, s11, s12, s13, s14, s15, s16⟩
         go_simp
         with_reducible rfl
        rotate_left
        ·simp only [Act.put, nrm]
         rfl
        refine take_ (i := 1) (N := some 28) (v := ?_) (a' := ?_) #[true, true, true, true, true, false, false, false, false, false, false, false, false] rfl rfl (take_ofW HT_.out HW_.out (by kernel_rfl)) (fun _ _ _ h => h) (Or.inl ⟨by rfl, ?_⟩) hHeld ?_ ?_
        rotate_left
        ·rintro w' ⟨s0, s1, s2, s3, s4, s5, s6, s7, s8, s9, s10, s11, s12, s13, s14, s15, s16⟩
         go_simp
         with_reducible rfl
        rotate_left
        ·simp only [Act.put, nrm]
         rfl
        refine take_ (i := 5) (N := some 32) (v := ?_) (a' := ?_) #[true, true, true, true, true, true, false, false, false, false, false, false, false] rfl rfl (take_ofW HT_.out HW_.out (by kernel_rfl)) (fun _ _ _ h => h) (Or.inl ⟨by rfl, ?_⟩) hHeld ?_ ?_
        rotate_left
        ·rintro w' ⟨s0, s1, s2, s3, s4, s5, s6, s7, s8, s9, s10, s11, s12, s13, s14, s15, s16⟩
         go_simp
         with_reducible rfl
        rotate_left
        ·simp only [Act.put, nrm]
         rfl
        refine join_ (σ := Value × Nat) 2 #[true, true, true, true, true, true, true, true, true, true, true, false, false] (fun s_ => [(33, .tuple #[.agg #[.int .i64 t286, .int .i64 t287, .int .i64 t288, .int .i64 t289, .int .i64 t290, .int .i64 t291, .int .i64 t292, .string t293], s_.1]), (8, .pointer (some ⟨s_.2, 0, none⟩)), (26, .tuple #[.agg #[.int .i64 t286, .int .i64 t287, .int .i64 t288, .int .i64 t289, .int .i64 t290, .int .i64 t291, .int .i64 t292, .string t293], s_.1]), (34, .agg #[.int .i64 t286, .int .i64 t287, .int .i64 t288, .int .i64 t289, .int .i64 t290, .int .i64 t291, .int .i64 t292, .string t293]), (35, s_.1)]) (fun s_ w' => (w'.cell? ⟨gb265, 0, none⟩ = some (.int .i64 a0_0) ∧ w'.cell? ⟨gb265, 1, none⟩ = some (.int .i64 a0_1) ∧ w'.cell? ⟨gb275, 0, none⟩ = some (.int .i64 x276000_2) ∧ w'.cell? ⟨gb275, 1, none⟩ = some (.int .i64 x276001_2) ∧ w'.cell? ⟨gb275, 2, none⟩ = some (.int .i64 x276002_2) ∧ w'.cell? ⟨gb275, 3, none⟩ = some (.int .i64 x276003_2) ∧ w'.cell? ⟨gb275, 4, none⟩ = some (.int .i64 x276004_2) ∧ w'.cell? ⟨gb275, 5, none⟩ = some (.int .i64 x276005_2) ∧ w'.cell? ⟨gb275, 6, none⟩ = some (.int .i64 x276006_2) ∧ w'.cell? ⟨gb275, 7, none⟩ = some (.string x276007_2) ∧ w'.cell? (ad285.add ((x7_2).toNat * 7)) = some (.int .i64 ((rd_T27 l1 x7_2).f0)) ∧ w'.cell? ⟨(ad285.add ((x7_2).toNat * 7)).block, (ad285.add ((x7_2).toNat * 7)).off + 1, none⟩ = some (.int .i64 ((rd_T27 l1 x7_2).f1)) ∧ w'.cell? ⟨(ad285.add ((x7_2).toNat * 7)).block, (ad285.add ((x7_2).toNat * 7)).off + 2, none⟩ = some (.int .i64 ((rd_T27 l1 x7_2).f2)) ∧ w'.cell? ⟨(ad285.add ((x7_2).toNat * 7)).block, (ad285.add ((x7_2).toNat * 7)).off + 3, none⟩ = some (.int .i64 ((rd_T27 l1 x7_2).f3)) ∧ w'.cell? ⟨(ad285.add ((x7_2).toNat * 7)).block, (ad285.add ((x7_2).toNat * 7)).off + 4, none⟩ = some (.int .i64 ((rd_T27 l1 x7_2).f4)) ∧ w'.cell? ⟨(ad285.add ((x7_2).toNat * 7)).block, (ad285.add ((x7_2).toNat * 7)).off + 5, none⟩ = some (.string ((rd_T27 l1 x7_2).f5)) ∧ w'.cell? ⟨(ad285.add ((x7_2).toNat * 7)).block, (ad285.add ((x7_2).toNat * 7)).off + 6, none⟩ = some (.int .i64 ((rd_T27 l1 x7_2).f6))) ∧ (Kd.R k27 27 w' w.heap.size (fun _ => True) s_.1 t294) ∧ (w'.heap[gb265]? = some (.cells #[.int .i64 a0_0, .int .i64 a0_1] 23 (0, 0))) ∧ (w'.heap[gb275]? = some (.cells #[.int .i64 x276000_2, .int .i64 x276001_2, .int .i64 x276002_2, .int .i64 x276003_2, .int .i64 x276004_2, .int .i64 x276005_2, .int .i64 x276006_2, .string x276007_2] 25 (0, 0))) ∧ (w'.heap[gb284]? = some (.cells #[.int .i64 x285000_2, .int .i64 x285001_2, .int .i64 x285002_2, .int .i64 x285003_2, .int .i64 x285004_2, .int .i64 x285005_2, .int .i64 x285006_2, .string x285007_2] 25 (0, 0))) ∧ (w'.heap[s_.2]? = some (.cells #[.int .i64 0, .int .i64 0, .int .i64 0, .int .i64 0, .int .i64 0, .int .i64 0, .int .i64 0, .string (⟨#[]⟩ : ByteArray)] 25 (0, 0))) ∧ (w.heap.size ≤ s_.2) ∧ (w.heap.size ≤ s_.2) ∧ (gb265 ≠ s_.2) ∧ (s_.2 ≠ gb265) ∧ (gb275 ≠ s_.2) ∧ (s_.2 ≠ gb275) ∧ (gb284 ≠ s_.2) ∧ (s_.2 ≠ gb284) ∧ (Below w.heap.size w w')) ?_ ?_
        rotate_left
        ·intro hCont
         refine two_ (i := 6) (j := 10) (Ni := some 33) (Nj := some 8) #[true, true, true, true, true, true, true, false, false, false, false, false, false] #[true, true, true, true, true, true, false, false, false, false, true, false, false] rfl rfl rfl rfl (two_of HT_.out (by kernel_rfl)) (by decide) (by decide) (fun K hK => ?_) (fun K hK => ?_)
         ·skip
          refine goes_ Try.func12 (by kernel_rfl) rfl #[.agg #[.int .i64 a0_0, .int .i64 a0_1], .agg #[.int .i64 x276000_2, .int .i64 x276001_2, .int .i64 x276002_2, .int .i64 x276003_2, .int .i64 x276004_2, .int .i64 x276005_2, .int .i64 x276006_2, .string x276007_2], .agg #[.int .i64 ((rd_T27 l1 x7_2).f0), .int .i64 ((rd_T27 l1 x7_2).f1), .int .i64 ((rd_T27 l1 x7_2).f2), .int .i64 ((rd_T27 l1 x7_2).f3), .int .i64 ((rd_T27 l1 x7_2).f4), .string ((rd_T27 l1 x7_2).f5), .int .i64 ((rd_T27 l1 x7_2).f6)]] (by rfl) rfl rfl (by (try simp only [List.map_toArray, List.map_cons, List.map_nil]); first | done | rfl | (simp only [List.length_drop, List.length_take]; rfl)) ?_
          with_reducible refine (scramble_Step.calls k2 a0_0 a0_1 x276000_2 x276001_2 x276002_2 x276003_2 x276004_2 x276005_2 x276006_2 x276007_2 ((rd_T27 l1 x7_2).f0) ((rd_T27 l1 x7_2).f1) ((rd_T27 l1 x7_2).f2) ((rd_T27 l1 x7_2).f3) ((rd_T27 l1 x7_2).f4) ((rd_T27 l1 x7_2).f5) ((rd_T27 l1 x7_2).f6) t286 t287 t288 t289 t290 t291 t292 t293 t294 _ A23.out).mono ?_
          rintro e w69 ⟨v295, rfl, ho0, hb⟩
          refine ⟨_, rfl, ?_⟩
          have n0_ := Aside0.mk (Kd.R_lower ho0 (below_size (hbw HB.out)))
          have n1_ := Aside0.mk (blkb BK265.out hb)
          have n2_ := Aside0.mk (blkb BK275.out hb)
          have n3_ := Aside0.mk (blkb BK284.out hb)
          have n4_ := Aside0.mk (below_step (hbw HB.out) hb)
          clear BK265
          clear BK275
          clear BK284
          clear HB
          have HO296 := n0_
          have BK265 := n1_
          have BK275 := n2_
          have BK284 := n3_
          have HB := n4_
          clear n0_ n1_ n2_ n3_ n4_
          (try clear hb)
          (try clear hb2)
          (try clear hk)
          (try clear hi)
          (try clear ho0)
          refine hK.out _ _ ⟨(blk_cell BK265.out 0).trans rfl, (blk_cell BK265.out 1).trans rfl, (blk_cell BK275.out 0).trans rfl, (blk_cell BK275.out 1).trans rfl, (blk_cell BK275.out 2).trans rfl, (blk_cell BK275.out 3).trans rfl, (blk_cell BK275.out 4).trans rfl, (blk_cell BK275.out 5).trans rfl, (blk_cell BK275.out 6).trans rfl, (blk_cell BK275.out 7).trans rfl, ((HB.out.cell (World.block_lt_of_cell? w _ hw285_0)).trans hw285_0), ((HB.out.cell (World.block_lt_of_cell? w _ hw285_1)).trans hw285_1), ((HB.out.cell (World.block_lt_of_cell? w _ hw285_2)).trans hw285_2), ((HB.out.cell (World.block_lt_of_cell? w _ hw285_3)).trans hw285_3), ((HB.out.cell (World.block_lt_of_cell? w _ hw285_4)).trans hw285_4), ((HB.out.cell (World.block_lt_of_cell? w _ hw285_5)).trans hw285_5), ((HB.out.cell (World.block_lt_of_cell? w _ hw285_6)).trans hw285_6)⟩ (fun hHeld => ?_)
          clear hK K
          refine norm_ (a' := ?_) ?_ ?_
          rotate_left
          ·show Act.put _ (some 33) _ = _
           simp only [Act.put, nrm]
           rfl
          refine pstep 7 (some 26) #[true, true, true, true, true, true, true, true, false, false, false, false, false] HT_.out ?_
          refine pstep 8 (some 34) #[true, true, true, true, true, true, true, true, true, false, false, false, false] HT_.out ?_
          refine pstep 9 (some 35) #[true, true, true, true, true, true, true, true, true, true, false, false, false] HT_.out ?_
          refine one_ (i := 10) (N := some 8) #[true, true, true, true, true, true, true, true, true, true, true, false, false] rfl rfl (one_of HT_.out (by kernel_rfl)) (by decide) (fun K hK => ?_)
          refine box_step ?hg (N := 8) ?hd (cs := #[.int .i64 0, .int .i64 0, .int .i64 0, .int .i64 0, .int .i64 0, .int .i64 0, .int .i64 0, .string (⟨#[]⟩ : ByteArray)]) (t := 25) ?hr ?_; (case hd => rfl); (case hg => rfl); (case hr => first | (go_simp; done) | (go_simp; rfl))
          intro gb297 hg w70 hbox hb
          have n0_ := Aside0.mk (Kd.R_below (rkw HO296.out) hb)
          have n1_ := Aside0.mk (blkb BK265.out hb)
          have n2_ := Aside0.mk (blkb BK275.out hb)
          have n3_ := Aside0.mk (blkb BK284.out hb)
          have n4_ := Aside0.mk (below_step (hbw HB.out) hb)
          have n5_ := Aside0.mk (hbox)
          have n6_ := Aside0.mk ((by rw [hg]; exact (below_size (hbw HB.out)) : w.heap.size ≤ gb297))
          have n7_ := Aside0.mk ((by rw [hg]; exact (below_size (hbw HB.out)) : w.heap.size ≤ gb297))
          have n8_ := Aside0.mk ((by rw [hg]; exact Nat.ne_of_lt (blkl BK265.out) : gb265 ≠ gb297))
          have n9_ := Aside0.mk ((by rw [hg]; exact Nat.ne_of_gt (blkl BK265.out) : gb297 ≠ gb265))
          have n10_ := Aside0.mk ((by rw [hg]; exact Nat.ne_of_lt (blkl BK275.out) : gb275 ≠ gb297))
          have n11_ := Aside0.mk ((by rw [hg]; exact Nat.ne_of_gt (blkl BK275.out) : gb297 ≠ gb275))
          have n12_ := Aside0.mk ((by rw [hg]; exact Nat.ne_of_lt (blkl BK284.out) : gb284 ≠ gb297))
          have n13_ := Aside0.mk ((by rw [hg]; exact Nat.ne_of_gt (blkl BK284.out) : gb297 ≠ gb284))
          clear HO296
          clear BK265
          clear BK275
          clear BK284
          clear HB
          have HO296 := n0_
          have BK265 := n1_
          have BK275 := n2_
          have BK284 := n3_
          have HB := n4_
          have BK297 := n5_
          have GW297 := n6_
          have GE297 := n7_
          have NB265_297 := n8_
          have NB297_265 := n9_
          have NB275_297 := n10_
          have NB297_275 := n11_
          have NB284_297 := n12_
          have NB297_284 := n13_
          clear n0_ n1_ n2_ n3_ n4_ n5_ n6_ n7_ n8_ n9_ n10_ n11_ n12_ n13_
          clear hb hbox hg
          refine hK.out _ _ ⟨(blk_cell BK265.out 0).trans rfl, (blk_cell BK265.out 1).trans rfl, (blk_cell BK275.out 0).trans rfl, (blk_cell BK275.out 1).trans rfl, (blk_cell BK275.out 2).trans rfl, (blk_cell BK275.out 3).trans rfl, (blk_cell BK275.out 4).trans rfl, (blk_cell BK275.out 5).trans rfl, (blk_cell BK275.out 6).trans rfl, (blk_cell BK275.out 7).trans rfl, ((HB.out.cell (World.block_lt_of_cell? w _ hw285_0)).trans hw285_0), ((HB.out.cell (World.block_lt_of_cell? w _ hw285_1)).trans hw285_1), ((HB.out.cell (World.block_lt_of_cell? w _ hw285_2)).trans hw285_2), ((HB.out.cell (World.block_lt_of_cell? w _ hw285_3)).trans hw285_3), ((HB.out.cell (World.block_lt_of_cell? w _ hw285_4)).trans hw285_4), ((HB.out.cell (World.block_lt_of_cell? w _ hw285_5)).trans hw285_5), ((HB.out.cell (World.block_lt_of_cell? w _ hw285_6)).trans hw285_6)⟩ (fun hHeld => ?_)
          clear hK K
          refine norm_ (a' := ?_) ?_ ?_
          rotate_left
          ·show Act.put _ (some 8) _ = _
           simp only [Act.put, nrm]
           rfl
          exact norm_ (by simp only [putAll, Act.put, List.setIfInBounds_toArray, List.set_cons_zero, List.set_cons_succ]) (hCont (v295, gb297) _ ⟨hHeld, (rkw HO296.out), (bkw BK265.out), (bkw BK275.out), (bkw BK284.out), (bkw BK297.out), GW297.out, GE297.out, NB265_297.out, NB297_265.out, NB275_297.out, NB297_275.out, NB284_297.out, NB297_284.out, (hbw HB.out)⟩)
         ·skip
          refine box_step ?hg (N := 8) ?hd (cs := #[.int .i64 0, .int .i64 0, .int .i64 0, .int .i64 0, .int .i64 0, .int .i64 0, .int .i64 0, .string (⟨#[]⟩ : ByteArray)]) (t := 25) ?hr ?_; (case hd => rfl); (case hg => rfl); (case hr => first | (go_simp; done) | (go_simp; rfl))
          intro gb297 hg w69 hbox hb
          have n0_ := Aside0.mk (blkb BK265.out hb)
          have n1_ := Aside0.mk (blkb BK275.out hb)
          have n2_ := Aside0.mk (blkb BK284.out hb)
          have n3_ := Aside0.mk (below_step (hbw HB.out) hb)
          have n4_ := Aside0.mk (hbox)
          have n5_ := Aside0.mk ((by rw [hg]; exact (below_size (hbw HB.out)) : w.heap.size ≤ gb297))
          have n6_ := Aside0.mk ((by rw [hg]; exact (below_size (hbw HB.out)) : w.heap.size ≤ gb297))
          have n7_ := Aside0.mk ((by rw [hg]; exact Nat.ne_of_lt (blkl BK265.out) : gb265 ≠ gb297))
          have n8_ := Aside0.mk ((by rw [hg]; exact Nat.ne_of_gt (blkl BK265.out) : gb297 ≠ gb265))
          have n9_ := Aside0.mk ((by rw [hg]; exact Nat.ne_of_lt (blkl BK275.out) : gb275 ≠ gb297))
          have n10_ := Aside0.mk ((by rw [hg]; exact Nat.ne_of_gt (blkl BK275.out) : gb297 ≠ gb275))
          have n11_ := Aside0.mk ((by rw [hg]; exact Nat.ne_of_lt (blkl BK284.out) : gb284 ≠ gb297))
          have n12_ := Aside0.mk ((by rw [hg]; exact Nat.ne_of_gt (blkl BK284.out) : gb297 ≠ gb284))
          clear BK265
          clear BK275
          clear BK284
          clear HB
          have BK265 := n0_
          have BK275 := n1_
          have BK284 := n2_
          have HB := n3_
          have BK297 := n4_
          have GW297 := n5_
          have GE297 := n6_
          have NB265_297 := n7_
          have NB297_265 := n8_
          have NB275_297 := n9_
          have NB297_275 := n10_
          have NB284_297 := n11_
          have NB297_284 := n12_
          clear n0_ n1_ n2_ n3_ n4_ n5_ n6_ n7_ n8_ n9_ n10_ n11_ n12_
          clear hb hbox hg
          refine hK.out _ _ ⟨(blk_cell BK265.out 0).trans rfl, (blk_cell BK265.out 1).trans rfl, (blk_cell BK275.out 0).trans rfl, (blk_cell BK275.out 1).trans rfl, (blk_cell BK275.out 2).trans rfl, (blk_cell BK275.out 3).trans rfl, (blk_cell BK275.out 4).trans rfl, (blk_cell BK275.out 5).trans rfl, (blk_cell BK275.out 6).trans rfl, (blk_cell BK275.out 7).trans rfl, ((HB.out.cell (World.block_lt_of_cell? w _ hw285_0)).trans hw285_0), ((HB.out.cell (World.block_lt_of_cell? w _ hw285_1)).trans hw285_1), ((HB.out.cell (World.block_lt_of_cell? w _ hw285_2)).trans hw285_2), ((HB.out.cell (World.block_lt_of_cell? w _ hw285_3)).trans hw285_3), ((HB.out.cell (World.block_lt_of_cell? w _ hw285_4)).trans hw285_4), ((HB.out.cell (World.block_lt_of_cell? w _ hw285_5)).trans hw285_5), ((HB.out.cell (World.block_lt_of_cell? w _ hw285_6)).trans hw285_6)⟩ (fun hHeld => ?_)
          clear hK K
          refine norm_ (a' := ?_) ?_ ?_
          rotate_left
          ·show Act.put _ (some 8) _ = _
           simp only [Act.put, nrm]
           rfl
          refine one_ (i := 6) (N := some 33) #[true, true, true, true, true, true, true, false, false, false, true, false, false] rfl rfl (one_of HT_.out (by kernel_rfl)) (by decide) (fun K hK => ?_)
          refine goes_ Try.func12 (by kernel_rfl) rfl #[.agg #[.int .i64 a0_0, .int .i64 a0_1], .agg #[.int .i64 x276000_2, .int .i64 x276001_2, .int .i64 x276002_2, .int .i64 x276003_2, .int .i64 x276004_2, .int .i64 x276005_2, .int .i64 x276006_2, .string x276007_2], .agg #[.int .i64 ((rd_T27 l1 x7_2).f0), .int .i64 ((rd_T27 l1 x7_2).f1), .int .i64 ((rd_T27 l1 x7_2).f2), .int .i64 ((rd_T27 l1 x7_2).f3), .int .i64 ((rd_T27 l1 x7_2).f4), .string ((rd_T27 l1 x7_2).f5), .int .i64 ((rd_T27 l1 x7_2).f6)]] (by rfl) rfl rfl (by (try simp only [List.map_toArray, List.map_cons, List.map_nil]); first | done | rfl | (simp only [List.length_drop, List.length_take]; rfl)) ?_
          with_reducible refine (scramble_Step.calls k2 a0_0 a0_1 x276000_2 x276001_2 x276002_2 x276003_2 x276004_2 x276005_2 x276006_2 x276007_2 ((rd_T27 l1 x7_2).f0) ((rd_T27 l1 x7_2).f1) ((rd_T27 l1 x7_2).f2) ((rd_T27 l1 x7_2).f3) ((rd_T27 l1 x7_2).f4) ((rd_T27 l1 x7_2).f5) ((rd_T27 l1 x7_2).f6) t286 t287 t288 t289 t290 t291 t292 t293 t294 _ A23.out).mono ?_
          rintro e w70 ⟨v295, rfl, ho0, hb⟩
          refine ⟨_, rfl, ?_⟩
          have n0_ := Aside0.mk (Kd.R_lower ho0 (below_size (hbw HB.out)))
          have n1_ := Aside0.mk (blkb BK265.out hb)
          have n2_ := Aside0.mk (blkb BK275.out hb)
          have n3_ := Aside0.mk (blkb BK284.out hb)
          have n4_ := Aside0.mk (blkb BK297.out hb)
          have n5_ := Aside0.mk (below_step (hbw HB.out) hb)
          clear BK265
          clear BK275
          clear BK284
          clear BK297
          clear HB
          have HO296 := n0_
          have BK265 := n1_
          have BK275 := n2_
          have BK284 := n3_
          have BK297 := n4_
          have HB := n5_
          clear n0_ n1_ n2_ n3_ n4_ n5_
          (try clear hb)
          (try clear hb2)
          (try clear hk)
          (try clear hi)
          (try clear ho0)
          refine hK.out _ _ ⟨(blk_cell BK265.out 0).trans rfl, (blk_cell BK265.out 1).trans rfl, (blk_cell BK275.out 0).trans rfl, (blk_cell BK275.out 1).trans rfl, (blk_cell BK275.out 2).trans rfl, (blk_cell BK275.out 3).trans rfl, (blk_cell BK275.out 4).trans rfl, (blk_cell BK275.out 5).trans rfl, (blk_cell BK275.out 6).trans rfl, (blk_cell BK275.out 7).trans rfl, ((HB.out.cell (World.block_lt_of_cell? w _ hw285_0)).trans hw285_0), ((HB.out.cell (World.block_lt_of_cell? w _ hw285_1)).trans hw285_1), ((HB.out.cell (World.block_lt_of_cell? w _ hw285_2)).trans hw285_2), ((HB.out.cell (World.block_lt_of_cell? w _ hw285_3)).trans hw285_3), ((HB.out.cell (World.block_lt_of_cell? w _ hw285_4)).trans hw285_4), ((HB.out.cell (World.block_lt_of_cell? w _ hw285_5)).trans hw285_5), ((HB.out.cell (World.block_lt_of_cell? w _ hw285_6)).trans hw285_6)⟩ (fun hHeld => ?_)
          clear hK K
          refine norm_ (a' := ?_) ?_ ?_
          rotate_left
          ·show Act.put _ (some 33) _ = _
           simp only [Act.put, nrm]
           rfl
          refine pstep 7 (some 26) #[true, true, true, true, true, true, true, true, false, false, true, false, false] HT_.out ?_
          refine pstep 8 (some 34) #[true, true, true, true, true, true, true, true, true, false, true, false, false] HT_.out ?_
          refine pstep 9 (some 35) #[true, true, true, true, true, true, true, true, true, true, true, false, false] HT_.out ?_
          exact norm_ (by simp only [putAll, Act.put, List.setIfInBounds_toArray, List.set_cons_zero, List.set_cons_succ]) (hCont (v295, gb297) _ ⟨hHeld, (rkw HO296.out), (bkw BK265.out), (bkw BK275.out), (bkw BK284.out), (bkw BK297.out), GW297.out, GE297.out, NB265_297.out, NB297_265.out, NB275_297.out, NB297_275.out, NB284_297.out, NB297_284.out, (hbw HB.out)⟩)
        rintro ⟨v295, gb297⟩ w71 ⟨hS_, h0_, h1_, h2_, h3_, h4_, h5_, h6_, h7_, h8_, h9_, h10_, h11_, h12_, h13_⟩
        have n0_ : Aside0 (Kd.R k27 27 w71 w.heap.size (fun _ => True) v295 t294) := ⟨h0_⟩
        have n1_ : Aside0 (w71.heap[gb265]? = some (.cells #[.int .i64 a0_0, .int .i64 a0_1] 23 (0, 0))) := ⟨h1_⟩
        have n2_ : Aside0 (w71.heap[gb275]? = some (.cells #[.int .i64 x276000_2, .int .i64 x276001_2, .int .i64 x276002_2, .int .i64 x276003_2, .int .i64 x276004_2, .int .i64 x276005_2, .int .i64 x276006_2, .string x276007_2] 25 (0, 0))) := ⟨h2_⟩
        have n3_ : Aside0 (w71.heap[gb284]? = some (.cells #[.int .i64 x285000_2, .int .i64 x285001_2, .int .i64 x285002_2, .int .i64 x285003_2, .int .i64 x285004_2, .int .i64 x285005_2, .int .i64 x285006_2, .string x285007_2] 25 (0, 0))) := ⟨h3_⟩
        have n4_ : Aside0 (w71.heap[gb297]? = some (.cells #[.int .i64 0, .int .i64 0, .int .i64 0, .int .i64 0, .int .i64 0, .int .i64 0, .int .i64 0, .string (⟨#[]⟩ : ByteArray)] 25 (0, 0))) := ⟨h4_⟩
        have n5_ : Aside0 (w.heap.size ≤ gb297) := ⟨h5_⟩
        have n6_ : Aside0 (w.heap.size ≤ gb297) := ⟨h6_⟩
        have n7_ : Aside0 (gb265 ≠ gb297) := ⟨h7_⟩
        have n8_ : Aside0 (gb297 ≠ gb265) := ⟨h8_⟩
        have n9_ : Aside0 (gb275 ≠ gb297) := ⟨h9_⟩
        have n10_ : Aside0 (gb297 ≠ gb275) := ⟨h10_⟩
        have n11_ : Aside0 (gb284 ≠ gb297) := ⟨h11_⟩
        have n12_ : Aside0 (gb297 ≠ gb284) := ⟨h12_⟩
        have n13_ : Aside0 (Below w.heap.size w w71) := ⟨h13_⟩
        clear BK265
        clear BK275
        clear BK284
        clear HB
        clear h0_ h1_ h2_ h3_ h4_ h5_ h6_ h7_ h8_ h9_ h10_ h11_ h12_ h13_
        have HO296 := n0_
        have BK265 := n1_
        have BK275 := n2_
        have BK284 := n3_
        have BK297 := n4_
        have GW297 := n5_
        have GE297 := n6_
        have NB265_297 := n7_
        have NB297_265 := n8_
        have NB275_297 := n9_
        have NB297_275 := n10_
        have NB284_297 := n11_
        have NB297_284 := n12_
        have HB := n13_
        clear n0_ n1_ n2_ n3_ n4_ n5_ n6_ n7_ n8_ n9_ n10_ n11_ n12_ n13_
        have hHeld : w71.cell? ⟨gb265, 0, none⟩ = some (.int .i64 a0_0) ∧ w71.cell? ⟨gb265, 1, none⟩ = some (.int .i64 a0_1) ∧ w71.cell? ⟨gb275, 0, none⟩ = some (.int .i64 x276000_2) ∧ w71.cell? ⟨gb275, 1, none⟩ = some (.int .i64 x276001_2) ∧ w71.cell? ⟨gb275, 2, none⟩ = some (.int .i64 x276002_2) ∧ w71.cell? ⟨gb275, 3, none⟩ = some (.int .i64 x276003_2) ∧ w71.cell? ⟨gb275, 4, none⟩ = some (.int .i64 x276004_2) ∧ w71.cell? ⟨gb275, 5, none⟩ = some (.int .i64 x276005_2) ∧ w71.cell? ⟨gb275, 6, none⟩ = some (.int .i64 x276006_2) ∧ w71.cell? ⟨gb275, 7, none⟩ = some (.string x276007_2) ∧ w71.cell? (ad285.add ((x7_2).toNat * 7)) = some (.int .i64 ((rd_T27 l1 x7_2).f0)) ∧ w71.cell? ⟨(ad285.add ((x7_2).toNat * 7)).block, (ad285.add ((x7_2).toNat * 7)).off + 1, none⟩ = some (.int .i64 ((rd_T27 l1 x7_2).f1)) ∧ w71.cell? ⟨(ad285.add ((x7_2).toNat * 7)).block, (ad285.add ((x7_2).toNat * 7)).off + 2, none⟩ = some (.int .i64 ((rd_T27 l1 x7_2).f2)) ∧ w71.cell? ⟨(ad285.add ((x7_2).toNat * 7)).block, (ad285.add ((x7_2).toNat * 7)).off + 3, none⟩ = some (.int .i64 ((rd_T27 l1 x7_2).f3)) ∧ w71.cell? ⟨(ad285.add ((x7_2).toNat * 7)).block, (ad285.add ((x7_2).toNat * 7)).off + 4, none⟩ = some (.int .i64 ((rd_T27 l1 x7_2).f4)) ∧ w71.cell? ⟨(ad285.add ((x7_2).toNat * 7)).block, (ad285.add ((x7_2).toNat * 7)).off + 5, none⟩ = some (.string ((rd_T27 l1 x7_2).f5)) ∧ w71.cell? ⟨(ad285.add ((x7_2).toNat * 7)).block, (ad285.add ((x7_2).toNat * 7)).off + 6, none⟩ = some (.int .i64 ((rd_T27 l1 x7_2).f6)) := hS_
        refine norm_ (a' := ?_) ?_ ?_
        rotate_left
        ·simp only [putAll, Act.put, List.setIfInBounds_toArray, List.set_cons_zero, List.set_cons_succ]
         rfl
        refine one_ (i := 11) (N := none) #[true, true, true, true, true, true, true, true, true, true, true, true, false] rfl rfl (one_of HT_.out (by kernel_rfl)) (by decide) (fun K hK => ?_)
        have hs72 : w71.cell? ⟨gb297, 0, none⟩ = some (.int .i64 0) := (blk_cell BK297.out 0).trans rfl
        have hfs72 := blk_frozen BK297.out 0
        have hns72_0 := NB265_297.out
        have hns72_1 := NB275_297.out
        have hns72_2 := NB284_297.out
        have hms72_0 := NB297_265.out
        have hms72_1 := NB297_275.out
        have hms72_2 := NB297_284.out
        have hs73 : w71.cell? ⟨gb297, 1, none⟩ = some (.int .i64 0) := (blk_cell BK297.out 1).trans rfl
        have hfs73 := blk_frozen BK297.out 1
        have hns73_0 := NB265_297.out
        have hns73_1 := NB275_297.out
        have hns73_2 := NB284_297.out
        have hms73_0 := NB297_265.out
        have hms73_1 := NB297_275.out
        have hms73_2 := NB297_284.out
        have hs74 : w71.cell? ⟨gb297, 2, none⟩ = some (.int .i64 0) := (blk_cell BK297.out 2).trans rfl
        have hfs74 := blk_frozen BK297.out 2
        have hns74_0 := NB265_297.out
        have hns74_1 := NB275_297.out
        have hns74_2 := NB284_297.out
        have hms74_0 := NB297_265.out
        have hms74_1 := NB297_275.out
        have hms74_2 := NB297_284.out
        have hs75 : w71.cell? ⟨gb297, 3, none⟩ = some (.int .i64 0) := (blk_cell BK297.out 3).trans rfl
        have hfs75 := blk_frozen BK297.out 3
        have hns75_0 := NB265_297.out
        have hns75_1 := NB275_297.out
        have hns75_2 := NB284_297.out
        have hms75_0 := NB297_265.out
        have hms75_1 := NB297_275.out
        have hms75_2 := NB297_284.out
        have hs76 : w71.cell? ⟨gb297, 4, none⟩ = some (.int .i64 0) := (blk_cell BK297.out 4).trans rfl
        have hfs76 := blk_frozen BK297.out 4
        have hns76_0 := NB265_297.out
        have hns76_1 := NB275_297.out
        have hns76_2 := NB284_297.out
        have hms76_0 := NB297_265.out
        have hms76_1 := NB297_275.out
        have hms76_2 := NB297_284.out
        have hs77 : w71.cell? ⟨gb297, 5, none⟩ = some (.int .i64 0) := (blk_cell BK297.out 5).trans rfl
        have hfs77 := blk_frozen BK297.out 5
        have hns77_0 := NB265_297.out
        have hns77_1 := NB275_297.out
        have hns77_2 := NB284_297.out
        have hms77_0 := NB297_265.out
        have hms77_1 := NB297_275.out
        have hms77_2 := NB297_284.out
        have hs78 : w71.cell? ⟨gb297, 6, none⟩ = some (.int .i64 0) := (blk_cell BK297.out 6).trans rfl
        have hfs78 := blk_frozen BK297.out 6
        have hns78_0 := NB265_297.out
        have hns78_1 := NB275_297.out
        have hns78_2 := NB284_297.out
        have hms78_0 := NB297_265.out
        have hms78_1 := NB297_275.out
        have hms78_2 := NB297_284.out
        have hs79 : w71.cell? ⟨gb297, 7, none⟩ = some (.string (⟨#[]⟩ : ByteArray)) := (blk_cell BK297.out 7).trans rfl
        have hfs79 := blk_frozen BK297.out 7
        have hns79_0 := NB265_297.out
        have hns79_1 := NB275_297.out
        have hns79_2 := NB284_297.out
        have hms79_0 := NB297_265.out
        have hms79_1 := NB297_275.out
        have hms79_2 := NB297_284.out
        refine skip_ (w1 := ?_) (by rfl) rfl ?_ ?_
        rotate_left
        ·go_simp
         rfl
        refine hK.out _ _ ⟨((far8 (g := gb297) NB265_297.out).trans (hHeld.1)), ((far8 (g := gb297) NB265_297.out).trans (hHeld.2.1)), ((far8 (g := gb297) NB275_297.out).trans (hHeld.2.2.1)), ((far8 (g := gb297) NB275_297.out).trans (hHeld.2.2.2.1)), ((far8 (g := gb297) NB275_297.out).trans (hHeld.2.2.2.2.1)), ((far8 (g := gb297) NB275_297.out).trans (hHeld.2.2.2.2.2.1)), ((far8 (g := gb297) NB275_297.out).trans (hHeld.2.2.2.2.2.2.1)), ((far8 (g := gb297) NB275_297.out).trans (hHeld.2.2.2.2.2.2.2.1)), ((far8 (g := gb297) NB275_297.out).trans (hHeld.2.2.2.2.2.2.2.2.1)), ((far8 (g := gb297) NB275_297.out).trans (hHeld.2.2.2.2.2.2.2.2.2.1)), ((far8 (g := gb297) (by have e_ := Nat.ne_of_lt (Nat.lt_of_lt_of_le (by have := World.block_lt_of_cell? _ _ hw285_0; first | rwa [add_block] at this | exact this) GW297.out); first | exact e_ | (rw [add_block]; exact e_) | (show (Addr.add _ _).block ≠ _; rw [add_block]; exact e_) | (dsimp only; exact e_))).trans (hHeld.2.2.2.2.2.2.2.2.2.2.1)), ((far8 (g := gb297) (by have e_ := Nat.ne_of_lt (Nat.lt_of_lt_of_le (by have := World.block_lt_of_cell? _ _ hw285_1; first | rwa [add_block] at this | exact this) GW297.out); first | exact e_ | (rw [add_block]; exact e_) | (show (Addr.add _ _).block ≠ _; rw [add_block]; exact e_) | (dsimp only; exact e_))).trans (hHeld.2.2.2.2.2.2.2.2.2.2.2.1)), ((far8 (g := gb297) (by have e_ := Nat.ne_of_lt (Nat.lt_of_lt_of_le (by have := World.block_lt_of_cell? _ _ hw285_2; first | rwa [add_block] at this | exact this) GW297.out); first | exact e_ | (rw [add_block]; exact e_) | (show (Addr.add _ _).block ≠ _; rw [add_block]; exact e_) | (dsimp only; exact e_))).trans (hHeld.2.2.2.2.2.2.2.2.2.2.2.2.1)), ((far8 (g := gb297) (by have e_ := Nat.ne_of_lt (Nat.lt_of_lt_of_le (by have := World.block_lt_of_cell? _ _ hw285_3; first | rwa [add_block] at this | exact this) GW297.out); first | exact e_ | (rw [add_block]; exact e_) | (show (Addr.add _ _).block ≠ _; rw [add_block]; exact e_) | (dsimp only; exact e_))).trans (hHeld.2.2.2.2.2.2.2.2.2.2.2.2.2.1)), ((far8 (g := gb297) (by have e_ := Nat.ne_of_lt (Nat.lt_of_lt_of_le (by have := World.block_lt_of_cell? _ _ hw285_4; first | rwa [add_block] at this | exact this) GW297.out); first | exact e_ | (rw [add_block]; exact e_) | (show (Addr.add _ _).block ≠ _; rw [add_block]; exact e_) | (dsimp only; exact e_))).trans (hHeld.2.2.2.2.2.2.2.2.2.2.2.2.2.2.1)), ((far8 (g := gb297) (by have e_ := Nat.ne_of_lt (Nat.lt_of_lt_of_le (by have := World.block_lt_of_cell? _ _ hw285_5; first | rwa [add_block] at this | exact this) GW297.out); first | exact e_ | (rw [add_block]; exact e_) | (show (Addr.add _ _).block ≠ _; rw [add_block]; exact e_) | (dsimp only; exact e_))).trans (hHeld.2.2.2.2.2.2.2.2.2.2.2.2.2.2.2.1)), ((far8 (g := gb297) (by have e_ := Nat.ne_of_lt (Nat.lt_of_lt_of_le (by have := World.block_lt_of_cell? _ _ hw285_6; first | rwa [add_block] at this | exact this) GW297.out); first | exact e_ | (rw [add_block]; exact e_) | (show (Addr.add _ _).block ≠ _; rw [add_block]; exact e_) | (dsimp only; exact e_))).trans (hHeld.2.2.2.2.2.2.2.2.2.2.2.2.2.2.2.2))⟩ (fun hHeld => ?_)
        clear hK K
        refine pstep 12 (some 9) #[true, true, true, true, true, true, true, true, true, true, true, true, true] HT_.out ?_
        refine done_ (done_of HT_.out (by kernel_rfl)) ?_
        try go_wp2
        have n0_ : Aside0 (Kd.R k27 27 ((((((((w71.setCell ⟨gb297, 0, none⟩ (.int .i64 t286)).setCell ⟨gb297, 1, none⟩ (.int .i64 t287)).setCell ⟨gb297, 2, none⟩ (.int .i64 t288)).setCell ⟨gb297, 3, none⟩ (.int .i64 t289)).setCell ⟨gb297, 4, none⟩ (.int .i64 t290)).setCell ⟨gb297, 5, none⟩ (.int .i64 t291)).setCell ⟨gb297, 6, none⟩ (.int .i64 t292)).setCell ⟨gb297, 7, none⟩ (.string t293)) w.heap.size (fun _ => True) v295 t294) := ⟨by (with_reducible repeat (first | apply Kd.R_alloc | apply Kd.R_drewN | apply Kd.R_drew)); exact Kd.R_mono (Kd.R_far (p := ⟨gb297, 7, none⟩) (Kd.R_far (p := ⟨gb297, 6, none⟩) (Kd.R_far (p := ⟨gb297, 5, none⟩) (Kd.R_far (p := ⟨gb297, 4, none⟩) (Kd.R_far (p := ⟨gb297, 3, none⟩) (Kd.R_far (p := ⟨gb297, 2, none⟩) (Kd.R_far (p := ⟨gb297, 1, none⟩) (Kd.R_far (p := ⟨gb297, 0, none⟩) (Kd.R_types HO296.out BK297.out (by decide)) (fun _ hk => hk.2) (.int .i64 t286)) (fun _ hk => hk.2) (.int .i64 t287)) (fun _ hk => hk.2) (.int .i64 t288)) (fun _ hk => hk.2) (.int .i64 t289)) (fun _ hk => hk.2) (.int .i64 t290)) (fun _ hk => hk.2) (.int .i64 t291)) (fun _ hk => hk.2) (.int .i64 t292)) (fun _ hk => hk.2) (.string t293)) (fun _ hk => trivial)⟩
        have n1_ : Aside0 (((((((((w71.setCell ⟨gb297, 0, none⟩ (.int .i64 t286)).setCell ⟨gb297, 1, none⟩ (.int .i64 t287)).setCell ⟨gb297, 2, none⟩ (.int .i64 t288)).setCell ⟨gb297, 3, none⟩ (.int .i64 t289)).setCell ⟨gb297, 4, none⟩ (.int .i64 t290)).setCell ⟨gb297, 5, none⟩ (.int .i64 t291)).setCell ⟨gb297, 6, none⟩ (.int .i64 t292)).setCell ⟨gb297, 7, none⟩ (.string t293)).heap[gb265]? = some (.cells #[.int .i64 a0_0, .int .i64 a0_1] 23 (0, 0))) := ⟨by (with_reducible repeat (first | refine blk_drewN ?_ _ | refine blk_drew ?_ | refine blk_alloc ?_ _)); refine blk_far ?_ NB265_297.out _; (with_reducible repeat (first | refine blk_drewN ?_ _ | refine blk_drew ?_ | refine blk_alloc ?_ _)); refine blk_far ?_ NB265_297.out _; (with_reducible repeat (first | refine blk_drewN ?_ _ | refine blk_drew ?_ | refine blk_alloc ?_ _)); refine blk_far ?_ NB265_297.out _; (with_reducible repeat (first | refine blk_drewN ?_ _ | refine blk_drew ?_ | refine blk_alloc ?_ _)); refine blk_far ?_ NB265_297.out _; (with_reducible repeat (first | refine blk_drewN ?_ _ | refine blk_drew ?_ | refine blk_alloc ?_ _)); refine blk_far ?_ NB265_297.out _; (with_reducible repeat (first | refine blk_drewN ?_ _ | refine blk_drew ?_ | refine blk_alloc ?_ _)); refine blk_far ?_ NB265_297.out _; (with_reducible repeat (first | refine blk_drewN ?_ _ | refine blk_drew ?_ | refine blk_alloc ?_ _)); refine blk_far ?_ NB265_297.out _; (with_reducible repeat (first | refine blk_drewN ?_ _ | refine blk_drew ?_ | refine blk_alloc ?_ _)); refine blk_far ?_ NB265_297.out _; (with_reducible repeat (first | refine blk_drewN ?_ _ | refine blk_drew ?_ | refine blk_alloc ?_ _)); exact BK265.out⟩
        have n2_ : Aside0 (((((((((w71.setCell ⟨gb297, 0, none⟩ (.int .i64 t286)).setCell ⟨gb297, 1, none⟩ (.int .i64 t287)).setCell ⟨gb297, 2, none⟩ (.int .i64 t288)).setCell ⟨gb297, 3, none⟩ (.int .i64 t289)).setCell ⟨gb297, 4, none⟩ (.int .i64 t290)).setCell ⟨gb297, 5, none⟩ (.int .i64 t291)).setCell ⟨gb297, 6, none⟩ (.int .i64 t292)).setCell ⟨gb297, 7, none⟩ (.string t293)).heap[gb275]? = some (.cells #[.int .i64 x276000_2, .int .i64 x276001_2, .int .i64 x276002_2, .int .i64 x276003_2, .int .i64 x276004_2, .int .i64 x276005_2, .int .i64 x276006_2, .string x276007_2] 25 (0, 0))) := ⟨by (with_reducible repeat (first | refine blk_drewN ?_ _ | refine blk_drew ?_ | refine blk_alloc ?_ _)); refine blk_far ?_ NB275_297.out _; (with_reducible repeat (first | refine blk_drewN ?_ _ | refine blk_drew ?_ | refine blk_alloc ?_ _)); refine blk_far ?_ NB275_297.out _; (with_reducible repeat (first | refine blk_drewN ?_ _ | refine blk_drew ?_ | refine blk_alloc ?_ _)); refine blk_far ?_ NB275_297.out _; (with_reducible repeat (first | refine blk_drewN ?_ _ | refine blk_drew ?_ | refine blk_alloc ?_ _)); refine blk_far ?_ NB275_297.out _; (with_reducible repeat (first | refine blk_drewN ?_ _ | refine blk_drew ?_ | refine blk_alloc ?_ _)); refine blk_far ?_ NB275_297.out _; (with_reducible repeat (first | refine blk_drewN ?_ _ | refine blk_drew ?_ | refine blk_alloc ?_ _)); refine blk_far ?_ NB275_297.out _; (with_reducible repeat (first | refine blk_drewN ?_ _ | refine blk_drew ?_ | refine blk_alloc ?_ _)); refine blk_far ?_ NB275_297.out _; (with_reducible repeat (first | refine blk_drewN ?_ _ | refine blk_drew ?_ | refine blk_alloc ?_ _)); refine blk_far ?_ NB275_297.out _; (with_reducible repeat (first | refine blk_drewN ?_ _ | refine blk_drew ?_ | refine blk_alloc ?_ _)); exact BK275.out⟩
        have n3_ : Aside0 (((((((((w71.setCell ⟨gb297, 0, none⟩ (.int .i64 t286)).setCell ⟨gb297, 1, none⟩ (.int .i64 t287)).setCell ⟨gb297, 2, none⟩ (.int .i64 t288)).setCell ⟨gb297, 3, none⟩ (.int .i64 t289)).setCell ⟨gb297, 4, none⟩ (.int .i64 t290)).setCell ⟨gb297, 5, none⟩ (.int .i64 t291)).setCell ⟨gb297, 6, none⟩ (.int .i64 t292)).setCell ⟨gb297, 7, none⟩ (.string t293)).heap[gb284]? = some (.cells #[.int .i64 x285000_2, .int .i64 x285001_2, .int .i64 x285002_2, .int .i64 x285003_2, .int .i64 x285004_2, .int .i64 x285005_2, .int .i64 x285006_2, .string x285007_2] 25 (0, 0))) := ⟨by (with_reducible repeat (first | refine blk_drewN ?_ _ | refine blk_drew ?_ | refine blk_alloc ?_ _)); refine blk_far ?_ NB284_297.out _; (with_reducible repeat (first | refine blk_drewN ?_ _ | refine blk_drew ?_ | refine blk_alloc ?_ _)); refine blk_far ?_ NB284_297.out _; (with_reducible repeat (first | refine blk_drewN ?_ _ | refine blk_drew ?_ | refine blk_alloc ?_ _)); refine blk_far ?_ NB284_297.out _; (with_reducible repeat (first | refine blk_drewN ?_ _ | refine blk_drew ?_ | refine blk_alloc ?_ _)); refine blk_far ?_ NB284_297.out _; (with_reducible repeat (first | refine blk_drewN ?_ _ | refine blk_drew ?_ | refine blk_alloc ?_ _)); refine blk_far ?_ NB284_297.out _; (with_reducible repeat (first | refine blk_drewN ?_ _ | refine blk_drew ?_ | refine blk_alloc ?_ _)); refine blk_far ?_ NB284_297.out _; (with_reducible repeat (first | refine blk_drewN ?_ _ | refine blk_drew ?_ | refine blk_alloc ?_ _)); refine blk_far ?_ NB284_297.out _; (with_reducible repeat (first | refine blk_drewN ?_ _ | refine blk_drew ?_ | refine blk_alloc ?_ _)); refine blk_far ?_ NB284_297.out _; (with_reducible repeat (first | refine blk_drewN ?_ _ | refine blk_drew ?_ | refine blk_alloc ?_ _)); exact BK284.out⟩
        have n4_ : Aside0 (((((((((w71.setCell ⟨gb297, 0, none⟩ (.int .i64 t286)).setCell ⟨gb297, 1, none⟩ (.int .i64 t287)).setCell ⟨gb297, 2, none⟩ (.int .i64 t288)).setCell ⟨gb297, 3, none⟩ (.int .i64 t289)).setCell ⟨gb297, 4, none⟩ (.int .i64 t290)).setCell ⟨gb297, 5, none⟩ (.int .i64 t291)).setCell ⟨gb297, 6, none⟩ (.int .i64 t292)).setCell ⟨gb297, 7, none⟩ (.string t293)).heap[gb297]? = some (.cells #[.int .i64 t286, .int .i64 t287, .int .i64 t288, .int .i64 t289, .int .i64 t290, .int .i64 t291, .int .i64 t292, .string t293] 25 (0, 0))) := ⟨by (with_reducible repeat (first | refine blk_drewN ?_ _ | refine blk_drew ?_ | refine blk_alloc ?_ _)); refine blk_put (cs := #[.int .i64 t286, .int .i64 t287, .int .i64 t288, .int .i64 t289, .int .i64 t290, .int .i64 t291, .int .i64 t292, .string (⟨#[]⟩ : ByteArray)]) ?_ 7 _ rfl; (with_reducible repeat (first | refine blk_drewN ?_ _ | refine blk_drew ?_ | refine blk_alloc ?_ _)); refine blk_put (cs := #[.int .i64 t286, .int .i64 t287, .int .i64 t288, .int .i64 t289, .int .i64 t290, .int .i64 t291, .int .i64 0, .string (⟨#[]⟩ : ByteArray)]) ?_ 6 _ rfl; (with_reducible repeat (first | refine blk_drewN ?_ _ | refine blk_drew ?_ | refine blk_alloc ?_ _)); refine blk_put (cs := #[.int .i64 t286, .int .i64 t287, .int .i64 t288, .int .i64 t289, .int .i64 t290, .int .i64 0, .int .i64 0, .string (⟨#[]⟩ : ByteArray)]) ?_ 5 _ rfl; (with_reducible repeat (first | refine blk_drewN ?_ _ | refine blk_drew ?_ | refine blk_alloc ?_ _)); refine blk_put (cs := #[.int .i64 t286, .int .i64 t287, .int .i64 t288, .int .i64 t289, .int .i64 0, .int .i64 0, .int .i64 0, .string (⟨#[]⟩ : ByteArray)]) ?_ 4 _ rfl; (with_reducible repeat (first | refine blk_drewN ?_ _ | refine blk_drew ?_ | refine blk_alloc ?_ _)); refine blk_put (cs := #[.int .i64 t286, .int .i64 t287, .int .i64 t288, .int .i64 0, .int .i64 0, .int .i64 0, .int .i64 0, .string (⟨#[]⟩ : ByteArray)]) ?_ 3 _ rfl; (with_reducible repeat (first | refine blk_drewN ?_ _ | refine blk_drew ?_ | refine blk_alloc ?_ _)); refine blk_put (cs := #[.int .i64 t286, .int .i64 t287, .int .i64 0, .int .i64 0, .int .i64 0, .int .i64 0, .int .i64 0, .string (⟨#[]⟩ : ByteArray)]) ?_ 2 _ rfl; (with_reducible repeat (first | refine blk_drewN ?_ _ | refine blk_drew ?_ | refine blk_alloc ?_ _)); refine blk_put (cs := #[.int .i64 t286, .int .i64 0, .int .i64 0, .int .i64 0, .int .i64 0, .int .i64 0, .int .i64 0, .string (⟨#[]⟩ : ByteArray)]) ?_ 1 _ rfl; (with_reducible repeat (first | refine blk_drewN ?_ _ | refine blk_drew ?_ | refine blk_alloc ?_ _)); refine blk_put (cs := #[.int .i64 0, .int .i64 0, .int .i64 0, .int .i64 0, .int .i64 0, .int .i64 0, .int .i64 0, .string (⟨#[]⟩ : ByteArray)]) ?_ 0 _ rfl; (with_reducible repeat (first | refine blk_drewN ?_ _ | refine blk_drew ?_ | refine blk_alloc ?_ _)); exact BK297.out⟩
        have n5_ : Aside0 (Below w.heap.size w ((((((((w71.setCell ⟨gb297, 0, none⟩ (.int .i64 t286)).setCell ⟨gb297, 1, none⟩ (.int .i64 t287)).setCell ⟨gb297, 2, none⟩ (.int .i64 t288)).setCell ⟨gb297, 3, none⟩ (.int .i64 t289)).setCell ⟨gb297, 4, none⟩ (.int .i64 t290)).setCell ⟨gb297, 5, none⟩ (.int .i64 t291)).setCell ⟨gb297, 6, none⟩ (.int .i64 t292)).setCell ⟨gb297, 7, none⟩ (.string t293))) := ⟨by repeat (first | (with_reducible first | exact HB.out | apply below_alloc | apply pw_below_drewN | apply below_drew1 | refine below_set ?_ GE265.out | refine below_set ?_ GE275.out | refine below_set ?_ GE284.out | refine below_set ?_ GE297.out) | exact HB.out)⟩
        (try clear HO296)
        (try clear BK265)
        (try clear BK275)
        (try clear BK284)
        (try clear BK297)
        (try clear HB)
        generalize ((((((((w71.setCell ⟨gb297, 0, none⟩ (.int .i64 t286)).setCell ⟨gb297, 1, none⟩ (.int .i64 t287)).setCell ⟨gb297, 2, none⟩ (.int .i64 t288)).setCell ⟨gb297, 3, none⟩ (.int .i64 t289)).setCell ⟨gb297, 4, none⟩ (.int .i64 t290)).setCell ⟨gb297, 5, none⟩ (.int .i64 t291)).setCell ⟨gb297, 6, none⟩ (.int .i64 t292)).setCell ⟨gb297, 7, none⟩ (.string t293)) = w80 at n0_ n1_ n2_ n3_ n4_ n5_ ⊢
        have HO296 := n0_
        have BK265 := n1_
        have BK275 := n2_
        have BK284 := n3_
        have BK297 := n4_
        have HB := n5_
        clear n0_ n1_ n2_ n3_ n4_ n5_
        have n0_ := Aside0.mk (Kd.R_drew HO296.out)
        have n1_ := Aside0.mk (blk_drew BK265.out)
        have n2_ := Aside0.mk (blk_drew BK275.out)
        have n3_ := Aside0.mk (blk_drew BK284.out)
        have n4_ := Aside0.mk (blk_drew BK297.out)
        have n5_ := Aside0.mk (below_drew1 HB.out)
        clear HO296
        clear BK265
        clear BK275
        clear BK284
        clear BK297
        clear HB
        have HO296 := n0_
        have BK265 := n1_
        have BK275 := n2_
        have BK284 := n3_
        have BK297 := n4_
        have HB := n5_
        clear n0_ n1_ n2_ n3_ n4_ n5_
        have p298 : 0 ≤ (x7_2 : Int) := of_decide_eq_true (by first | (with_reducible assumption) | assumption)
        have q298 : x7_2 < (l1.length : Int) := of_decide_eq_true (by first | (with_reducible assumption) | assumption)
        obtain ⟨ad298, e298, hx298_0, hx298_1, hx298_2, hx298_3, hx298_4, hx298_5, hx298_6⟩ := at_T27 HR1.out x7_2 p298 q298
        have hw298_6 := hx298_6
        have hw298_5 := hx298_5
        have hw298_4 := hx298_4
        have hw298_3 := hx298_3
        have hw298_2 := hx298_2
        have hw298_1 := hx298_1
        have hw298_0 := hx298_0
        obtain rfl : ad285 = ad298 := (by injection e298)
        replace hx298_0 := (HB.out.cell (World.block_lt_of_cell? w _ hx298_0)).trans hx298_0
        replace hx298_1 := (HB.out.cell (World.block_lt_of_cell? w _ hx298_1)).trans hx298_1
        replace hx298_2 := (HB.out.cell (World.block_lt_of_cell? w _ hx298_2)).trans hx298_2
        replace hx298_3 := (HB.out.cell (World.block_lt_of_cell? w _ hx298_3)).trans hx298_3
        replace hx298_4 := (HB.out.cell (World.block_lt_of_cell? w _ hx298_4)).trans hx298_4
        replace hx298_5 := (HB.out.cell (World.block_lt_of_cell? w _ hx298_5)).trans hx298_5
        replace hx298_6 := (HB.out.cell (World.block_lt_of_cell? w _ hx298_6)).trans hx298_6
        replace p298 := eq_true p298
        replace q298 := eq_true q298
        refine start_ (n := 13) (S := fun w' => w'.cell? ⟨gb265, 0, none⟩ = some (.int .i64 a0_0) ∧ w'.cell? ⟨gb265, 1, none⟩ = some (.int .i64 a0_1) ∧ w'.cell? ⟨gb284, 0, none⟩ = some (.int .i64 x285000_2) ∧ w'.cell? ⟨gb284, 1, none⟩ = some (.int .i64 x285001_2) ∧ w'.cell? ⟨gb284, 2, none⟩ = some (.int .i64 x285002_2) ∧ w'.cell? ⟨gb284, 3, none⟩ = some (.int .i64 x285003_2) ∧ w'.cell? ⟨gb284, 4, none⟩ = some (.int .i64 x285004_2) ∧ w'.cell? ⟨gb284, 5, none⟩ = some (.int .i64 x285005_2) ∧ w'.cell? ⟨gb284, 6, none⟩ = some (.int .i64 x285006_2) ∧ w'.cell? ⟨gb284, 7, none⟩ = some (.string x285007_2) ∧ w'.cell? (ad285.add ((x7_2).toNat * 7)) = some (.int .i64 ((rd_T27 l1 x7_2).f0)) ∧ w'.cell? ⟨(ad285.add ((x7_2).toNat * 7)).block, (ad285.add ((x7_2).toNat * 7)).off + 1, none⟩ = some (.int .i64 ((rd_T27 l1 x7_2).f1)) ∧ w'.cell? ⟨(ad285.add ((x7_2).toNat * 7)).block, (ad285.add ((x7_2).toNat * 7)).off + 2, none⟩ = some (.int .i64 ((rd_T27 l1 x7_2).f2)) ∧ w'.cell? ⟨(ad285.add ((x7_2).toNat * 7)).block, (ad285.add ((x7_2).toNat * 7)).off + 3, none⟩ = some (.int .i64 ((rd_T27 l1 x7_2).f3)) ∧ w'.cell? ⟨(ad285.add ((x7_2).toNat * 7)).block, (ad285.add ((x7_2).toNat * 7)).off + 4, none⟩ = some (.int .i64 ((rd_T27 l1 x7_2).f4)) ∧ w'.cell? ⟨(ad285.add ((x7_2).toNat * 7)).block, (ad285.add ((x7_2).toNat * 7)).off + 5, none⟩ = some (.string ((rd_T27 l1 x7_2).f5)) ∧ w'.cell? ⟨(ad285.add ((x7_2).toNat * 7)).block, (ad285.add ((x7_2).toNat * 7)).off + 6, none⟩ = some (.int .i64 ((rd_T27 l1 x7_2).f6))) (ds := []) #[false, false, false, false, false, false, false, false, false, false, false, false, false] (by kernel_rfl) rfl rfl ⟨(blk_cell BK265.out 0).trans rfl, (blk_cell BK265.out 1).trans rfl, (blk_cell BK284.out 0).trans rfl, (blk_cell BK284.out 1).trans rfl, (blk_cell BK284.out 2).trans rfl, (blk_cell BK284.out 3).trans rfl, (blk_cell BK284.out 4).trans rfl, (blk_cell BK284.out 5).trans rfl, (blk_cell BK284.out 6).trans rfl, (blk_cell BK284.out 7).trans rfl, ((HB.out.cell (World.block_lt_of_cell? w _ hw298_0)).trans hw298_0), ((HB.out.cell (World.block_lt_of_cell? w _ hw298_1)).trans hw298_1), ((HB.out.cell (World.block_lt_of_cell? w _ hw298_2)).trans hw298_2), ((HB.out.cell (World.block_lt_of_cell? w _ hw298_3)).trans hw298_3), ((HB.out.cell (World.block_lt_of_cell? w _ hw298_4)).trans hw298_4), ((HB.out.cell (World.block_lt_of_cell? w _ hw298_5)).trans hw298_5), ((HB.out.cell (World.block_lt_of_cell? w _ hw298_6)).trans hw298_6)⟩ (fun hHeld => ?_); refine with_tabW signalbenchlaw20_ScrambleDecodes.tab9 signalbenchlaw20_ScrambleDecodes.bits9 (fun HT_ HW_ => ?_)
        generalize w80.drew = w81 at HO296 BK265 BK275 BK284 BK297 HB hx298_0 hx298_1 hx298_2 hx298_3 hx298_4 hx298_5 hx298_6 hHeld ⊢
        refine pstep 2 (some 39) #[false, false, true, false, false, false, false, false, false, false, false, false, false] HT_.out ?_
        refine pstep 3 (some 40) #[false, false, true, true, false, false, false, false, false, false, false, false, false] HT_.out ?_
        refine pstep 4 (some 41) #[false, false, true, true, true, false, false, false, false, false, false, false, false] HT_.out ?_
        refine take_ (i := 0) (N := some 37) (v := ?_) (a' := ?_) #[true, false, true, true, true, false, false, false, false, false, false, false, false] rfl rfl (take_ofW HT_.out HW_.out (by kernel_rfl)) (fun _ _ _ h => h) (Or.inl ⟨by rfl, ?_⟩) hHeld ?_ ?_
        rotate_left
        ·rintro w' ⟨s0, s1, s2, s3, s4, s5, s6, s7, s8, s9, s10, s11, s12, s13, s14, s15, s16⟩
         go_simp
         with_reducible rfl
        rotate_left
        ·simp only [Act.put, nrm]
         rfl
        refine take_ (i := 1) (N := some 38) (v := ?_) (a' := ?_) #[true, true, true, true, true, false, false, false, false, false, false, false, false] rfl rfl (take_ofW HT_.out HW_.out (by kernel_rfl)) (fun _ _ _ h => h) (Or.inl ⟨by rfl, ?_⟩) hHeld ?_ ?_
        rotate_left
        ·rintro w' ⟨s0, s1, s2, s3, s4, s5, s6, s7, s8, s9, s10, s11, s12, s13, s14, s15, s16⟩
         go_simp
         with_reducible rfl
        rotate_left
        ·simp only [Act.put, nrm]
         rfl
        refine take_ (i := 5) (N := some 42) (v := ?_) (a' := ?_) #[true, true, true, true, true, true, false, false, false, false, false, false, false] rfl rfl (take_ofW HT_.out HW_.out (by kernel_rfl)) (fun _ _ _ h => h) (Or.inl ⟨by rfl, ?_⟩) hHeld ?_ ?_
        rotate_left
        ·rintro w' ⟨s0, s1, s2, s3, s4, s5, s6, s7, s8, s9, s10, s11, s12, s13, s14, s15, s16⟩
         go_simp
         with_reducible rfl
        rotate_left
        ·simp only [Act.put, nrm]
         rfl
        refine join_ (σ := Value × Nat) 2 #[true, true, true, true, true, true, true, true, true, true, true, false, false] (fun s_ => [(43, .tuple #[.agg #[.int .i64 t299, .int .i64 t300, .int .i64 t301, .int .i64 t302, .int .i64 t303, .int .i64 t304, .int .i64 t305, .string t306], s_.1]), (10, .pointer (some ⟨s_.2, 0, none⟩)), (36, .tuple #[.agg #[.int .i64 t299, .int .i64 t300, .int .i64 t301, .int .i64 t302, .int .i64 t303, .int .i64 t304, .int .i64 t305, .string t306], s_.1]), (44, .agg #[.int .i64 t299, .int .i64 t300, .int .i64 t301, .int .i64 t302, .int .i64 t303, .int .i64 t304, .int .i64 t305, .string t306]), (45, s_.1)]) (fun s_ w' => (w'.cell? ⟨gb265, 0, none⟩ = some (.int .i64 a0_0) ∧ w'.cell? ⟨gb265, 1, none⟩ = some (.int .i64 a0_1) ∧ w'.cell? ⟨gb284, 0, none⟩ = some (.int .i64 x285000_2) ∧ w'.cell? ⟨gb284, 1, none⟩ = some (.int .i64 x285001_2) ∧ w'.cell? ⟨gb284, 2, none⟩ = some (.int .i64 x285002_2) ∧ w'.cell? ⟨gb284, 3, none⟩ = some (.int .i64 x285003_2) ∧ w'.cell? ⟨gb284, 4, none⟩ = some (.int .i64 x285004_2) ∧ w'.cell? ⟨gb284, 5, none⟩ = some (.int .i64 x285005_2) ∧ w'.cell? ⟨gb284, 6, none⟩ = some (.int .i64 x285006_2) ∧ w'.cell? ⟨gb284, 7, none⟩ = some (.string x285007_2) ∧ w'.cell? (ad285.add ((x7_2).toNat * 7)) = some (.int .i64 ((rd_T27 l1 x7_2).f0)) ∧ w'.cell? ⟨(ad285.add ((x7_2).toNat * 7)).block, (ad285.add ((x7_2).toNat * 7)).off + 1, none⟩ = some (.int .i64 ((rd_T27 l1 x7_2).f1)) ∧ w'.cell? ⟨(ad285.add ((x7_2).toNat * 7)).block, (ad285.add ((x7_2).toNat * 7)).off + 2, none⟩ = some (.int .i64 ((rd_T27 l1 x7_2).f2)) ∧ w'.cell? ⟨(ad285.add ((x7_2).toNat * 7)).block, (ad285.add ((x7_2).toNat * 7)).off + 3, none⟩ = some (.int .i64 ((rd_T27 l1 x7_2).f3)) ∧ w'.cell? ⟨(ad285.add ((x7_2).toNat * 7)).block, (ad285.add ((x7_2).toNat * 7)).off + 4, none⟩ = some (.int .i64 ((rd_T27 l1 x7_2).f4)) ∧ w'.cell? ⟨(ad285.add ((x7_2).toNat * 7)).block, (ad285.add ((x7_2).toNat * 7)).off + 5, none⟩ = some (.string ((rd_T27 l1 x7_2).f5)) ∧ w'.cell? ⟨(ad285.add ((x7_2).toNat * 7)).block, (ad285.add ((x7_2).toNat * 7)).off + 6, none⟩ = some (.int .i64 ((rd_T27 l1 x7_2).f6))) ∧ (Kd.R k27 27 w' w.heap.size (fun k_ => some k_ ≠ (s_.1 : Value).ownBlock) v295 t294) ∧ (Kd.R k27 27 w' w.heap.size (fun k_ => some k_ ≠ (v295 : Value).ownBlock) s_.1 t307) ∧ (w'.heap[gb265]? = some (.cells #[.int .i64 a0_0, .int .i64 a0_1] 23 (0, 0))) ∧ (w'.heap[gb275]? = some (.cells #[.int .i64 x276000_2, .int .i64 x276001_2, .int .i64 x276002_2, .int .i64 x276003_2, .int .i64 x276004_2, .int .i64 x276005_2, .int .i64 x276006_2, .string x276007_2] 25 (0, 0))) ∧ (w'.heap[gb284]? = some (.cells #[.int .i64 x285000_2, .int .i64 x285001_2, .int .i64 x285002_2, .int .i64 x285003_2, .int .i64 x285004_2, .int .i64 x285005_2, .int .i64 x285006_2, .string x285007_2] 25 (0, 0))) ∧ (w'.heap[gb297]? = some (.cells #[.int .i64 t286, .int .i64 t287, .int .i64 t288, .int .i64 t289, .int .i64 t290, .int .i64 t291, .int .i64 t292, .string t293] 25 (0, 0))) ∧ (w'.heap[s_.2]? = some (.cells #[.int .i64 0, .int .i64 0, .int .i64 0, .int .i64 0, .int .i64 0, .int .i64 0, .int .i64 0, .string (⟨#[]⟩ : ByteArray)] 25 (0, 0))) ∧ (w.heap.size ≤ s_.2) ∧ (w.heap.size ≤ s_.2) ∧ (gb265 ≠ s_.2) ∧ (s_.2 ≠ gb265) ∧ (gb275 ≠ s_.2) ∧ (s_.2 ≠ gb275) ∧ (gb284 ≠ s_.2) ∧ (s_.2 ≠ gb284) ∧ (gb297 ≠ s_.2) ∧ (s_.2 ≠ gb297) ∧ (Below w.heap.size w w')) ?_ ?_
        rotate_left
        ·intro hCont
         refine two_ (i := 6) (j := 10) (Ni := some 43) (Nj := some 10) #[true, true, true, true, true, true, true, false, false, false, false, false, false] #[true, true, true, true, true, true, false, false, false, false, true, false, false] rfl rfl rfl rfl (two_of HT_.out (by kernel_rfl)) (by decide) (by decide) (fun K hK => ?_) (fun K hK => ?_)
         ·skip
          refine goes_ Try.func18 (by kernel_rfl) rfl #[.agg #[.int .i64 a0_0, .int .i64 a0_1], .agg #[.int .i64 x285000_2, .int .i64 x285001_2, .int .i64 x285002_2, .int .i64 x285003_2, .int .i64 x285004_2, .int .i64 x285005_2, .int .i64 x285006_2, .string x285007_2], .agg #[.int .i64 ((rd_T27 l1 x7_2).f0), .int .i64 ((rd_T27 l1 x7_2).f1), .int .i64 ((rd_T27 l1 x7_2).f2), .int .i64 ((rd_T27 l1 x7_2).f3), .int .i64 ((rd_T27 l1 x7_2).f4), .string ((rd_T27 l1 x7_2).f5), .int .i64 ((rd_T27 l1 x7_2).f6)]] (by rfl) rfl rfl (by (try simp only [List.map_toArray, List.map_cons, List.map_nil]); first | done | rfl | (simp only [List.length_drop, List.length_take]; rfl)) ?_
          with_reducible refine (signalbenchref20_Step.calls k2 a0_0 a0_1 x285000_2 x285001_2 x285002_2 x285003_2 x285004_2 x285005_2 x285006_2 x285007_2 ((rd_T27 l1 x7_2).f0) ((rd_T27 l1 x7_2).f1) ((rd_T27 l1 x7_2).f2) ((rd_T27 l1 x7_2).f3) ((rd_T27 l1 x7_2).f4) ((rd_T27 l1 x7_2).f5) ((rd_T27 l1 x7_2).f6) t299 t300 t301 t302 t303 t304 t305 t306 t307 _ A24.out).mono ?_
          rintro e w82 ⟨v308, rfl, ho0, hb⟩
          refine ⟨_, rfl, ?_⟩
          have n0_ := Aside0.mk (Kd.R_elder' (rkw HO296.out) (Kd.R_base ho0) hb)
          have n1_ := Aside0.mk (Kd.R_lower (Kd.R_new' ho0 (Kd.R_lt (rkw HO296.out))) (below_size (hbw HB.out)))
          have n2_ := Aside0.mk (blkb BK265.out hb)
          have n3_ := Aside0.mk (blkb BK275.out hb)
          have n4_ := Aside0.mk (blkb BK284.out hb)
          have n5_ := Aside0.mk (blkb BK297.out hb)
          have n6_ := Aside0.mk (below_step (hbw HB.out) hb)
          clear HO296
          clear BK265
          clear BK275
          clear BK284
          clear BK297
          clear HB
          have HO296 := n0_
          have HO309 := n1_
          have BK265 := n2_
          have BK275 := n3_
          have BK284 := n4_
          have BK297 := n5_
          have HB := n6_
          clear n0_ n1_ n2_ n3_ n4_ n5_ n6_
          (try clear hb)
          (try clear hb2)
          (try clear hk)
          (try clear hi)
          (try clear ho0)
          refine hK.out _ _ ⟨(blk_cell BK265.out 0).trans rfl, (blk_cell BK265.out 1).trans rfl, (blk_cell BK284.out 0).trans rfl, (blk_cell BK284.out 1).trans rfl, (blk_cell BK284.out 2).trans rfl, (blk_cell BK284.out 3).trans rfl, (blk_cell BK284.out 4).trans rfl, (blk_cell BK284.out 5).trans rfl, (blk_cell BK284.out 6).trans rfl, (blk_cell BK284.out 7).trans rfl, ((HB.out.cell (World.block_lt_of_cell? w _ hw298_0)).trans hw298_0), ((HB.out.cell (World.block_lt_of_cell? w _ hw298_1)).trans hw298_1), ((HB.out.cell (World.block_lt_of_cell? w _ hw298_2)).trans hw298_2), ((HB.out.cell (World.block_lt_of_cell? w _ hw298_3)).trans hw298_3), ((HB.out.cell (World.block_lt_of_cell? w _ hw298_4)).trans hw298_4), ((HB.out.cell (World.block_lt_of_cell? w _ hw298_5)).trans hw298_5), ((HB.out.cell (World.block_lt_of_cell? w _ hw298_6)).trans hw298_6)⟩ (fun hHeld => ?_)
          clear hK K
          refine norm_ (a' := ?_) ?_ ?_
          rotate_left
          ·show Act.put _ (some 43) _ = _
           simp only [Act.put, nrm]
           rfl
          refine pstep 7 (some 36) #[true, true, true, true, true, true, true, true, false, false, false, false, false] HT_.out ?_
          refine pstep 8 (some 44) #[true, true, true, true, true, true, true, true, true, false, false, false, false] HT_.out ?_
          refine pstep 9 (some 45) #[true, true, true, true, true, true, true, true, true, true, false, false, false] HT_.out ?_
          refine one_ (i := 10) (N := some 10) #[true, true, true, true, true, true, true, true, true, true, true, false, false] rfl rfl (one_of HT_.out (by kernel_rfl)) (by decide) (fun K hK => ?_)
          refine box_step ?hg (N := 10) ?hd (cs := #[.int .i64 0, .int .i64 0, .int .i64 0, .int .i64 0, .int .i64 0, .int .i64 0, .int .i64 0, .string (⟨#[]⟩ : ByteArray)]) (t := 25) ?hr ?_; (case hd => rfl); (case hg => rfl); (case hr => first | (go_simp; done) | (go_simp; rfl))
          intro gb310 hg w83 hbox hb
          have n0_ := Aside0.mk (Kd.R_below (rkw HO296.out) hb)
          have n1_ := Aside0.mk (Kd.R_below (rkw HO309.out) hb)
          have n2_ := Aside0.mk (blkb BK265.out hb)
          have n3_ := Aside0.mk (blkb BK275.out hb)
          have n4_ := Aside0.mk (blkb BK284.out hb)
          have n5_ := Aside0.mk (blkb BK297.out hb)
          have n6_ := Aside0.mk (below_step (hbw HB.out) hb)
          have n7_ := Aside0.mk (hbox)
          have n8_ := Aside0.mk ((by rw [hg]; exact (below_size (hbw HB.out)) : w.heap.size ≤ gb310))
          have n9_ := Aside0.mk ((by rw [hg]; exact (below_size (hbw HB.out)) : w.heap.size ≤ gb310))
          have n10_ := Aside0.mk ((by rw [hg]; exact Nat.ne_of_lt (blkl BK265.out) : gb265 ≠ gb310))
          have n11_ := Aside0.mk ((by rw [hg]; exact Nat.ne_of_gt (blkl BK265.out) : gb310 ≠ gb265))
          have n12_ := Aside0.mk ((by rw [hg]; exact Nat.ne_of_lt (blkl BK275.out) : gb275 ≠ gb310))
          have n13_ := Aside0.mk ((by rw [hg]; exact Nat.ne_of_gt (blkl BK275.out) : gb310 ≠ gb275))
          have n14_ := Aside0.mk ((by rw [hg]; exact Nat.ne_of_lt (blkl BK284.out) : gb284 ≠ gb310))
          have n15_ := Aside0.mk ((by rw [hg]; exact Nat.ne_of_gt (blkl BK284.out) : gb310 ≠ gb284))
          have n16_ := Aside0.mk ((by rw [hg]; exact Nat.ne_of_lt (blkl BK297.out) : gb297 ≠ gb310))
          have n17_ := Aside0.mk ((by rw [hg]; exact Nat.ne_of_gt (blkl BK297.out) : gb310 ≠ gb297))
          clear HO296
          clear HO309
          clear BK265
          clear BK275
          clear BK284
          clear BK297
          clear HB
          have HO296 := n0_
          have HO309 := n1_
          have BK265 := n2_
          have BK275 := n3_
          have BK284 := n4_
          have BK297 := n5_
          have HB := n6_
          have BK310 := n7_
          have GW310 := n8_
          have GE310 := n9_
          have NB265_310 := n10_
          have NB310_265 := n11_
          have NB275_310 := n12_
          have NB310_275 := n13_
          have NB284_310 := n14_
          have NB310_284 := n15_
          have NB297_310 := n16_
          have NB310_297 := n17_
          clear n0_ n1_ n2_ n3_ n4_ n5_ n6_ n7_ n8_ n9_ n10_ n11_ n12_ n13_ n14_ n15_ n16_ n17_
          clear hb hbox hg
          refine hK.out _ _ ⟨(blk_cell BK265.out 0).trans rfl, (blk_cell BK265.out 1).trans rfl, (blk_cell BK284.out 0).trans rfl, (blk_cell BK284.out 1).trans rfl, (blk_cell BK284.out 2).trans rfl, (blk_cell BK284.out 3).trans rfl, (blk_cell BK284.out 4).trans rfl, (blk_cell BK284.out 5).trans rfl, (blk_cell BK284.out 6).trans rfl, (blk_cell BK284.out 7).trans rfl, ((HB.out.cell (World.block_lt_of_cell? w _ hw298_0)).trans hw298_0), ((HB.out.cell (World.block_lt_of_cell? w _ hw298_1)).trans hw298_1), ((HB.out.cell (World.block_lt_of_cell? w _ hw298_2)).trans hw298_2), ((HB.out.cell (World.block_lt_of_cell? w _ hw298_3)).trans hw298_3), ((HB.out.cell (World.block_lt_of_cell? w _ hw298_4)).trans hw298_4), ((HB.out.cell (World.block_lt_of_cell? w _ hw298_5)).trans hw298_5), ((HB.out.cell (World.block_lt_of_cell? w _ hw298_6)).trans hw298_6)⟩ (fun hHeld => ?_)
          clear hK K
          refine norm_ (a' := ?_) ?_ ?_
          rotate_left
          ·show Act.put _ (some 10) _ = _
           simp only [Act.put, nrm]
           rfl
          exact norm_ (by simp only [putAll, Act.put, List.setIfInBounds_toArray, List.set_cons_zero, List.set_cons_succ]) (hCont (v308, gb310) _ ⟨hHeld, (by (with_reducible repeat (first | apply Kd.R_alloc | apply Kd.R_drewN | apply Kd.R_drew)); exact Kd.R_mono HO296.out (fun _ hk => hk.2)), (by (with_reducible repeat (first | apply Kd.R_alloc | apply Kd.R_drewN | apply Kd.R_drew)); exact Kd.R_mono HO309.out (fun _ hk => hk.2)), (bkw BK265.out), (bkw BK275.out), (bkw BK284.out), (bkw BK297.out), (bkw BK310.out), GW310.out, GE310.out, NB265_310.out, NB310_265.out, NB275_310.out, NB310_275.out, NB284_310.out, NB310_284.out, NB297_310.out, NB310_297.out, (hbw HB.out)⟩)
         ·skip
          refine box_step ?hg (N := 10) ?hd (cs := #[.int .i64 0, .int .i64 0, .int .i64 0, .int .i64 0, .int .i64 0, .int .i64 0, .int .i64 0, .string (⟨#[]⟩ : ByteArray)]) (t := 25) ?hr ?_; (case hd => rfl); (case hg => rfl); (case hr => first | (go_simp; done) | (go_simp; rfl))
          intro gb310 hg w82 hbox hb
          have n0_ := Aside0.mk (Kd.R_below (rkw HO296.out) hb)
          have n1_ := Aside0.mk (blkb BK265.out hb)
          have n2_ := Aside0.mk (blkb BK275.out hb)
          have n3_ := Aside0.mk (blkb BK284.out hb)
          have n4_ := Aside0.mk (blkb BK297.out hb)
          have n5_ := Aside0.mk (below_step (hbw HB.out) hb)
          have n6_ := Aside0.mk (hbox)
          have n7_ := Aside0.mk ((by rw [hg]; exact (below_size (hbw HB.out)) : w.heap.size ≤ gb310))
          have n8_ := Aside0.mk ((by rw [hg]; exact (below_size (hbw HB.out)) : w.heap.size ≤ gb310))
          have n9_ := Aside0.mk ((by rw [hg]; exact Nat.ne_of_lt (blkl BK265.out) : gb265 ≠ gb310))
          have n10_ := Aside0.mk ((by rw [hg]; exact Nat.ne_of_gt (blkl BK265.out) : gb310 ≠ gb265))
          have n11_ := Aside0.mk ((by rw [hg]; exact Nat.ne_of_lt (blkl BK275.out) : gb275 ≠ gb310))
          have n12_ := Aside0.mk ((by rw [hg]; exact Nat.ne_of_gt (blkl BK275.out) : gb310 ≠ gb275))
          have n13_ := Aside0.mk ((by rw [hg]; exact Nat.ne_of_lt (blkl BK284.out) : gb284 ≠ gb310))
          have n14_ := Aside0.mk ((by rw [hg]; exact Nat.ne_of_gt (blkl BK284.out) : gb310 ≠ gb284))
          have n15_ := Aside0.mk ((by rw [hg]; exact Nat.ne_of_lt (blkl BK297.out) : gb297 ≠ gb310))
          have n16_ := Aside0.mk ((by rw [hg]; exact Nat.ne_of_gt (blkl BK297.out) : gb310 ≠ gb297))
          clear HO296
          clear BK265
          clear BK275
          clear BK284
          clear BK297
          clear HB
          have HO296 := n0_
          have BK265 := n1_
          have BK275 := n2_
          have BK284 := n3_
          have BK297 := n4_
          have HB := n5_
          have BK310 := n6_
          have GW310 := n7_
          have GE310 := n8_
          have NB265_310 := n9_
          have NB310_265 := n10_
          have NB275_310 := n11_
          have NB310_275 := n12_
          have NB284_310 := n13_
          have NB310_284 := n14_
          have NB297_310 := n15_
          have NB310_297 := n16_
          clear n0_ n1_ n2_ n3_ n4_ n5_ n6_ n7_ n8_ n9_ n10_ n11_ n12_ n13_ n14_ n15_ n16_
          clear hb hbox hg
          refine hK.out _ _ ⟨(blk_cell BK265.out 0).trans rfl, (blk_cell BK265.out 1).trans rfl, (blk_cell BK284.out 0).trans rfl, (blk_cell BK284.out 1).trans rfl, (blk_cell BK284.out 2).trans rfl, (blk_cell BK284.out 3).trans rfl, (blk_cell BK284.out 4).trans rfl, (blk_cell BK284.out 5).trans rfl, (blk_cell BK284.out 6).trans rfl, (blk_cell BK284.out 7).trans rfl, ((HB.out.cell (World.block_lt_of_cell? w _ hw298_0)).trans hw298_0), ((HB.out.cell (World.block_lt_of_cell? w _ hw298_1)).trans hw298_1), ((HB.out.cell (World.block_lt_of_cell? w _ hw298_2)).trans hw298_2), ((HB.out.cell (World.block_lt_of_cell? w _ hw298_3)).trans hw298_3), ((HB.out.cell (World.block_lt_of_cell? w _ hw298_4)).trans hw298_4), ((HB.out.cell (World.block_lt_of_cell? w _ hw298_5)).trans hw298_5), ((HB.out.cell (World.block_lt_of_cell? w _ hw298_6)).trans hw298_6)⟩ (fun hHeld => ?_)
          clear hK K
          refine norm_ (a' := ?_) ?_ ?_
          rotate_left
          ·show Act.put _ (some 10) _ = _
           simp only [Act.put, nrm]
           rfl
          refine one_ (i := 6) (N := some 43) #[true, true, true, true, true, true, true, false, false, false, true, false, false] rfl rfl (one_of HT_.out (by kernel_rfl)) (by decide) (fun K hK => ?_)
          refine goes_ Try.func18 (by kernel_rfl) rfl #[.agg #[.int .i64 a0_0, .int .i64 a0_1], .agg #[.int .i64 x285000_2, .int .i64 x285001_2, .int .i64 x285002_2, .int .i64 x285003_2, .int .i64 x285004_2, .int .i64 x285005_2, .int .i64 x285006_2, .string x285007_2], .agg #[.int .i64 ((rd_T27 l1 x7_2).f0), .int .i64 ((rd_T27 l1 x7_2).f1), .int .i64 ((rd_T27 l1 x7_2).f2), .int .i64 ((rd_T27 l1 x7_2).f3), .int .i64 ((rd_T27 l1 x7_2).f4), .string ((rd_T27 l1 x7_2).f5), .int .i64 ((rd_T27 l1 x7_2).f6)]] (by rfl) rfl rfl (by (try simp only [List.map_toArray, List.map_cons, List.map_nil]); first | done | rfl | (simp only [List.length_drop, List.length_take]; rfl)) ?_
          with_reducible refine (signalbenchref20_Step.calls k2 a0_0 a0_1 x285000_2 x285001_2 x285002_2 x285003_2 x285004_2 x285005_2 x285006_2 x285007_2 ((rd_T27 l1 x7_2).f0) ((rd_T27 l1 x7_2).f1) ((rd_T27 l1 x7_2).f2) ((rd_T27 l1 x7_2).f3) ((rd_T27 l1 x7_2).f4) ((rd_T27 l1 x7_2).f5) ((rd_T27 l1 x7_2).f6) t299 t300 t301 t302 t303 t304 t305 t306 t307 _ A24.out).mono ?_
          rintro e w83 ⟨v308, rfl, ho0, hb⟩
          refine ⟨_, rfl, ?_⟩
          have n0_ := Aside0.mk (Kd.R_elder' (rkw HO296.out) (Kd.R_base ho0) hb)
          have n1_ := Aside0.mk (Kd.R_lower (Kd.R_new' ho0 (Kd.R_lt (rkw HO296.out))) (below_size (hbw HB.out)))
          have n2_ := Aside0.mk (blkb BK265.out hb)
          have n3_ := Aside0.mk (blkb BK275.out hb)
          have n4_ := Aside0.mk (blkb BK284.out hb)
          have n5_ := Aside0.mk (blkb BK297.out hb)
          have n6_ := Aside0.mk (blkb BK310.out hb)
          have n7_ := Aside0.mk (below_step (hbw HB.out) hb)
          clear HO296
          clear BK265
          clear BK275
          clear BK284
          clear BK297
          clear BK310
          clear HB
          have HO296 := n0_
          have HO309 := n1_
          have BK265 := n2_
          have BK275 := n3_
          have BK284 := n4_
          have BK297 := n5_
          have BK310 := n6_
          have HB := n7_
          clear n0_ n1_ n2_ n3_ n4_ n5_ n6_ n7_
          (try clear hb)
          (try clear hb2)
          (try clear hk)
          (try clear hi)
          (try clear ho0)
          refine hK.out _ _ ⟨(blk_cell BK265.out 0).trans rfl, (blk_cell BK265.out 1).trans rfl, (blk_cell BK284.out 0).trans rfl, (blk_cell BK284.out 1).trans rfl, (blk_cell BK284.out 2).trans rfl, (blk_cell BK284.out 3).trans rfl, (blk_cell BK284.out 4).trans rfl, (blk_cell BK284.out 5).trans rfl, (blk_cell BK284.out 6).trans rfl, (blk_cell BK284.out 7).trans rfl, ((HB.out.cell (World.block_lt_of_cell? w _ hw298_0)).trans hw298_0), ((HB.out.cell (World.block_lt_of_cell? w _ hw298_1)).trans hw298_1), ((HB.out.cell (World.block_lt_of_cell? w _ hw298_2)).trans hw298_2), ((HB.out.cell (World.block_lt_of_cell? w _ hw298_3)).trans hw298_3), ((HB.out.cell (World.block_lt_of_cell? w _ hw298_4)).trans hw298_4), ((HB.out.cell (World.block_lt_of_cell? w _ hw298_5)).trans hw298_5), ((HB.out.cell (World.block_lt_of_cell? w _ hw298_6)).trans hw298_6)⟩ (fun hHeld => ?_)
          clear hK K
          refine norm_ (a' := ?_) ?_ ?_
          rotate_left
          ·show Act.put _ (some 43) _ = _
           simp only [Act.put, nrm]
           rfl
          refine pstep 7 (some 36) #[true, true, true, true, true, true, true, true, false, false, true, false, false] HT_.out ?_
          refine pstep 8 (some 44) #[true, true, true, true, true, true, true, true, true, false, true, false, false] HT_.out ?_
          refine pstep 9 (some 45) #[true, true, true, true, true, true, true, true, true, true, true, false, false] HT_.out ?_
          exact norm_ (by simp only [putAll, Act.put, List.setIfInBounds_toArray, List.set_cons_zero, List.set_cons_succ]) (hCont (v308, gb310) _ ⟨hHeld, (by (with_reducible repeat (first | apply Kd.R_alloc | apply Kd.R_drewN | apply Kd.R_drew)); exact Kd.R_mono HO296.out (fun _ hk => hk.2)), (by (with_reducible repeat (first | apply Kd.R_alloc | apply Kd.R_drewN | apply Kd.R_drew)); exact Kd.R_mono HO309.out (fun _ hk => hk.2)), (bkw BK265.out), (bkw BK275.out), (bkw BK284.out), (bkw BK297.out), (bkw BK310.out), GW310.out, GE310.out, NB265_310.out, NB310_265.out, NB275_310.out, NB310_275.out, NB284_310.out, NB310_284.out, NB297_310.out, NB310_297.out, (hbw HB.out)⟩)
        rintro ⟨v308, gb310⟩ w84 ⟨hS_, h0_, h1_, h2_, h3_, h4_, h5_, h6_, h7_, h8_, h9_, h10_, h11_, h12_, h13_, h14_, h15_, h16_, h17_⟩
        have n0_ : Aside0 (Kd.R k27 27 w84 w.heap.size (fun k_ => some k_ ≠ (v308 : Value).ownBlock) v295 t294) := ⟨h0_⟩
        have n1_ : Aside0 (Kd.R k27 27 w84 w.heap.size (fun k_ => some k_ ≠ (v295 : Value).ownBlock) v308 t307) := ⟨h1_⟩
        have n2_ : Aside0 (w84.heap[gb265]? = some (.cells #[.int .i64 a0_0, .int .i64 a0_1] 23 (0, 0))) := ⟨h2_⟩
        have n3_ : Aside0 (w84.heap[gb275]? = some (.cells #[.int .i64 x276000_2, .int .i64 x276001_2, .int .i64 x276002_2, .int .i64 x276003_2, .int .i64 x276004_2, .int .i64 x276005_2, .int .i64 x276006_2, .string x276007_2] 25 (0, 0))) := ⟨h3_⟩
        have n4_ : Aside0 (w84.heap[gb284]? = some (.cells #[.int .i64 x285000_2, .int .i64 x285001_2, .int .i64 x285002_2, .int .i64 x285003_2, .int .i64 x285004_2, .int .i64 x285005_2, .int .i64 x285006_2, .string x285007_2] 25 (0, 0))) := ⟨h4_⟩
        have n5_ : Aside0 (w84.heap[gb297]? = some (.cells #[.int .i64 t286, .int .i64 t287, .int .i64 t288, .int .i64 t289, .int .i64 t290, .int .i64 t291, .int .i64 t292, .string t293] 25 (0, 0))) := ⟨h5_⟩
        have n6_ : Aside0 (w84.heap[gb310]? = some (.cells #[.int .i64 0, .int .i64 0, .int .i64 0, .int .i64 0, .int .i64 0, .int .i64 0, .int .i64 0, .string (⟨#[]⟩ : ByteArray)] 25 (0, 0))) := ⟨h6_⟩
        have n7_ : Aside0 (w.heap.size ≤ gb310) := ⟨h7_⟩
        have n8_ : Aside0 (w.heap.size ≤ gb310) := ⟨h8_⟩
        have n9_ : Aside0 (gb265 ≠ gb310) := ⟨h9_⟩
        have n10_ : Aside0 (gb310 ≠ gb265) := ⟨h10_⟩
        have n11_ : Aside0 (gb275 ≠ gb310) := ⟨h11_⟩
        have n12_ : Aside0 (gb310 ≠ gb275) := ⟨h12_⟩
        have n13_ : Aside0 (gb284 ≠ gb310) := ⟨h13_⟩
        have n14_ : Aside0 (gb310 ≠ gb284) := ⟨h14_⟩
        have n15_ : Aside0 (gb297 ≠ gb310) := ⟨h15_⟩
        have n16_ : Aside0 (gb310 ≠ gb297) := ⟨h16_⟩
        have n17_ : Aside0 (Below w.heap.size w w84) := ⟨h17_⟩
        clear HO296
        clear BK265
        clear BK275
        clear BK284
        clear BK297
        clear HB
        clear h0_ h1_ h2_ h3_ h4_ h5_ h6_ h7_ h8_ h9_ h10_ h11_ h12_ h13_ h14_ h15_ h16_ h17_
        have HO296 := n0_
        have HO309 := n1_
        have BK265 := n2_
        have BK275 := n3_
        have BK284 := n4_
        have BK297 := n5_
        have BK310 := n6_
        have GW310 := n7_
        have GE310 := n8_
        have NB265_310 := n9_
        have NB310_265 := n10_
        have NB275_310 := n11_
        have NB310_275 := n12_
        have NB284_310 := n13_
        have NB310_284 := n14_
        have NB297_310 := n15_
        have NB310_297 := n16_
        have HB := n17_
        clear n0_ n1_ n2_ n3_ n4_ n5_ n6_ n7_ n8_ n9_ n10_ n11_ n12_ n13_ n14_ n15_ n16_ n17_
        have hHeld : w84.cell? ⟨gb265, 0, none⟩ = some (.int .i64 a0_0) ∧ w84.cell? ⟨gb265, 1, none⟩ = some (.int .i64 a0_1) ∧ w84.cell? ⟨gb284, 0, none⟩ = some (.int .i64 x285000_2) ∧ w84.cell? ⟨gb284, 1, none⟩ = some (.int .i64 x285001_2) ∧ w84.cell? ⟨gb284, 2, none⟩ = some (.int .i64 x285002_2) ∧ w84.cell? ⟨gb284, 3, none⟩ = some (.int .i64 x285003_2) ∧ w84.cell? ⟨gb284, 4, none⟩ = some (.int .i64 x285004_2) ∧ w84.cell? ⟨gb284, 5, none⟩ = some (.int .i64 x285005_2) ∧ w84.cell? ⟨gb284, 6, none⟩ = some (.int .i64 x285006_2) ∧ w84.cell? ⟨gb284, 7, none⟩ = some (.string x285007_2) ∧ w84.cell? (ad285.add ((x7_2).toNat * 7)) = some (.int .i64 ((rd_T27 l1 x7_2).f0)) ∧ w84.cell? ⟨(ad285.add ((x7_2).toNat * 7)).block, (ad285.add ((x7_2).toNat * 7)).off + 1, none⟩ = some (.int .i64 ((rd_T27 l1 x7_2).f1)) ∧ w84.cell? ⟨(ad285.add ((x7_2).toNat * 7)).block, (ad285.add ((x7_2).toNat * 7)).off + 2, none⟩ = some (.int .i64 ((rd_T27 l1 x7_2).f2)) ∧ w84.cell? ⟨(ad285.add ((x7_2).toNat * 7)).block, (ad285.add ((x7_2).toNat * 7)).off + 3, none⟩ = some (.int .i64 ((rd_T27 l1 x7_2).f3)) ∧ w84.cell? ⟨(ad285.add ((x7_2).toNat * 7)).block, (ad285.add ((x7_2).toNat * 7)).off + 4, none⟩ = some (.int .i64 ((rd_T27 l1 x7_2).f4)) ∧ w84.cell? ⟨(ad285.add ((x7_2).toNat * 7)).block, (ad285.add ((x7_2).toNat * 7)).off + 5, none⟩ = some (.string ((rd_T27 l1 x7_2).f5)) ∧ w84.cell? ⟨(ad285.add ((x7_2).toNat * 7)).block, (ad285.add ((x7_2).toNat * 7)).off + 6, none⟩ = some (.int .i64 ((rd_T27 l1 x7_2).f6)) := hS_
        refine norm_ (a' := ?_) ?_ ?_
        rotate_left
        ·simp only [putAll, Act.put, List.setIfInBounds_toArray, List.set_cons_zero, List.set_cons_succ]
         rfl
        refine one_ (i := 11) (N := none) #[true, true, true, true, true, true, true, true, true, true, true, true, false] rfl rfl (one_of HT_.out (by kernel_rfl)) (by decide) (fun K hK => ?_)
        have hs85 : w84.cell? ⟨gb310, 0, none⟩ = some (.int .i64 0) := (blk_cell BK310.out 0).trans rfl
        have hfs85 := blk_frozen BK310.out 0
        have hns85_0 := NB265_310.out
        have hns85_1 := NB275_310.out
        have hns85_2 := NB284_310.out
        have hns85_3 := NB297_310.out
        have hms85_0 := NB310_265.out
        have hms85_1 := NB310_275.out
        have hms85_2 := NB310_284.out
        have hms85_3 := NB310_297.out
        have hs86 : w84.cell? ⟨gb310, 1, none⟩ = some (.int .i64 0) := (blk_cell BK310.out 1).trans rfl
        have hfs86 := blk_frozen BK310.out 1
        have hns86_0 := NB265_310.out
        have hns86_1 := NB275_310.out
        have hns86_2 := NB284_310.out
        have hns86_3 := NB297_310.out
        have hms86_0 := NB310_265.out
        have hms86_1 := NB310_275.out
        have hms86_2 := NB310_284.out
        have hms86_3 := NB310_297.out
        have hs87 : w84.cell? ⟨gb310, 2, none⟩ = some (.int .i64 0) := (blk_cell BK310.out 2).trans rfl
        have hfs87 := blk_frozen BK310.out 2
        have hns87_0 := NB265_310.out
        have hns87_1 := NB275_310.out
        have hns87_2 := NB284_310.out
        have hns87_3 := NB297_310.out
        have hms87_0 := NB310_265.out
        have hms87_1 := NB310_275.out
        have hms87_2 := NB310_284.out
        have hms87_3 := NB310_297.out
        have hs88 : w84.cell? ⟨gb310, 3, none⟩ = some (.int .i64 0) := (blk_cell BK310.out 3).trans rfl
        have hfs88 := blk_frozen BK310.out 3
        have hns88_0 := NB265_310.out
        have hns88_1 := NB275_310.out
        have hns88_2 := NB284_310.out
        have hns88_3 := NB297_310.out
        have hms88_0 := NB310_265.out
        have hms88_1 := NB310_275.out
        have hms88_2 := NB310_284.out
        have hms88_3 := NB310_297.out
        have hs89 : w84.cell? ⟨gb310, 4, none⟩ = some (.int .i64 0) := (blk_cell BK310.out 4).trans rfl
        have hfs89 := blk_frozen BK310.out 4
        have hns89_0 := NB265_310.out
        have hns89_1 := NB275_310.out
        have hns89_2 := NB284_310.out
        have hns89_3 := NB297_310.out
        have hms89_0 := NB310_265.out
        have hms89_1 := NB310_275.out
        have hms89_2 := NB310_284.out
        have hms89_3 := NB310_297.out
        have hs90 : w84.cell? ⟨gb310, 5, none⟩ = some (.int .i64 0) := (blk_cell BK310.out 5).trans rfl
        have hfs90 := blk_frozen BK310.out 5
        have hns90_0 := NB265_310.out
        have hns90_1 := NB275_310.out
        have hns90_2 := NB284_310.out
        have hns90_3 := NB297_310.out
        have hms90_0 := NB310_265.out
        have hms90_1 := NB310_275.out
        have hms90_2 := NB310_284.out
        have hms90_3 := NB310_297.out
        have hs91 : w84.cell? ⟨gb310, 6, none⟩ = some (.int .i64 0) := (blk_cell BK310.out 6).trans rfl
        have hfs91 := blk_frozen BK310.out 6
        have hns91_0 := NB265_310.out
        have hns91_1 := NB275_310.out
        have hns91_2 := NB284_310.out
        have hns91_3 := NB297_310.out
        have hms91_0 := NB310_265.out
        have hms91_1 := NB310_275.out
        have hms91_2 := NB310_284.out
        have hms91_3 := NB310_297.out
        have hs92 : w84.cell? ⟨gb310, 7, none⟩ = some (.string (⟨#[]⟩ : ByteArray)) := (blk_cell BK310.out 7).trans rfl
        have hfs92 := blk_frozen BK310.out 7
        have hns92_0 := NB265_310.out
        have hns92_1 := NB275_310.out
        have hns92_2 := NB284_310.out
        have hns92_3 := NB297_310.out
        have hms92_0 := NB310_265.out
        have hms92_1 := NB310_275.out
        have hms92_2 := NB310_284.out
        have hms92_3 := NB310_297.out
        refine skip_ (w1 := ?_) (by rfl) rfl ?_ ?_
        rotate_left
        ·go_simp
         rfl
        refine hK.out _ _ ⟨((far8 (g := gb310) NB265_310.out).trans (hHeld.1)), ((far8 (g := gb310) NB265_310.out).trans (hHeld.2.1)), ((far8 (g := gb310) NB284_310.out).trans (hHeld.2.2.1)), ((far8 (g := gb310) NB284_310.out).trans (hHeld.2.2.2.1)), ((far8 (g := gb310) NB284_310.out).trans (hHeld.2.2.2.2.1)), ((far8 (g := gb310) NB284_310.out).trans (hHeld.2.2.2.2.2.1)), ((far8 (g := gb310) NB284_310.out).trans (hHeld.2.2.2.2.2.2.1)), ((far8 (g := gb310) NB284_310.out).trans (hHeld.2.2.2.2.2.2.2.1)), ((far8 (g := gb310) NB284_310.out).trans (hHeld.2.2.2.2.2.2.2.2.1)), ((far8 (g := gb310) NB284_310.out).trans (hHeld.2.2.2.2.2.2.2.2.2.1)), ((far8 (g := gb310) (by have e_ := Nat.ne_of_lt (Nat.lt_of_lt_of_le (by have := World.block_lt_of_cell? _ _ hw298_0; first | rwa [add_block] at this | exact this) GW310.out); first | exact e_ | (rw [add_block]; exact e_) | (show (Addr.add _ _).block ≠ _; rw [add_block]; exact e_) | (dsimp only; exact e_))).trans (hHeld.2.2.2.2.2.2.2.2.2.2.1)), ((far8 (g := gb310) (by have e_ := Nat.ne_of_lt (Nat.lt_of_lt_of_le (by have := World.block_lt_of_cell? _ _ hw298_1; first | rwa [add_block] at this | exact this) GW310.out); first | exact e_ | (rw [add_block]; exact e_) | (show (Addr.add _ _).block ≠ _; rw [add_block]; exact e_) | (dsimp only; exact e_))).trans (hHeld.2.2.2.2.2.2.2.2.2.2.2.1)), ((far8 (g := gb310) (by have e_ := Nat.ne_of_lt (Nat.lt_of_lt_of_le (by have := World.block_lt_of_cell? _ _ hw298_2; first | rwa [add_block] at this | exact this) GW310.out); first | exact e_ | (rw [add_block]; exact e_) | (show (Addr.add _ _).block ≠ _; rw [add_block]; exact e_) | (dsimp only; exact e_))).trans (hHeld.2.2.2.2.2.2.2.2.2.2.2.2.1)), ((far8 (g := gb310) (by have e_ := Nat.ne_of_lt (Nat.lt_of_lt_of_le (by have := World.block_lt_of_cell? _ _ hw298_3; first | rwa [add_block] at this | exact this) GW310.out); first | exact e_ | (rw [add_block]; exact e_) | (show (Addr.add _ _).block ≠ _; rw [add_block]; exact e_) | (dsimp only; exact e_))).trans (hHeld.2.2.2.2.2.2.2.2.2.2.2.2.2.1)), ((far8 (g := gb310) (by have e_ := Nat.ne_of_lt (Nat.lt_of_lt_of_le (by have := World.block_lt_of_cell? _ _ hw298_4; first | rwa [add_block] at this | exact this) GW310.out); first | exact e_ | (rw [add_block]; exact e_) | (show (Addr.add _ _).block ≠ _; rw [add_block]; exact e_) | (dsimp only; exact e_))).trans (hHeld.2.2.2.2.2.2.2.2.2.2.2.2.2.2.1)), ((far8 (g := gb310) (by have e_ := Nat.ne_of_lt (Nat.lt_of_lt_of_le (by have := World.block_lt_of_cell? _ _ hw298_5; first | rwa [add_block] at this | exact this) GW310.out); first | exact e_ | (rw [add_block]; exact e_) | (show (Addr.add _ _).block ≠ _; rw [add_block]; exact e_) | (dsimp only; exact e_))).trans (hHeld.2.2.2.2.2.2.2.2.2.2.2.2.2.2.2.1)), ((far8 (g := gb310) (by have e_ := Nat.ne_of_lt (Nat.lt_of_lt_of_le (by have := World.block_lt_of_cell? _ _ hw298_6; first | rwa [add_block] at this | exact this) GW310.out); first | exact e_ | (rw [add_block]; exact e_) | (show (Addr.add _ _).block ≠ _; rw [add_block]; exact e_) | (dsimp only; exact e_))).trans (hHeld.2.2.2.2.2.2.2.2.2.2.2.2.2.2.2.2))⟩ (fun hHeld => ?_)
        clear hK K
        refine pstep 12 (some 11) #[true, true, true, true, true, true, true, true, true, true, true, true, true] HT_.out ?_
        refine done_ (done_of HT_.out (by kernel_rfl)) ?_
        obtain ⟨Ao93, co93, eo93⟩ := Kd.R_slice HO296.out
        subst eo93
        obtain ⟨Ao94, co94, eo94⟩ := Kd.R_slice HO309.out
        subst eo94
        try go_wp2_with (first | ((with_reducible refine gate_callee (f := 19) rfl ?_); refine goesL_ (some 48) rfl rfl Try.func19 (by kernel_rfl) rfl #[.slice Ao93 t294.length co93, .slice Ao94 t307.length co94] rfl (by (try simp only [List.map_toArray, List.map_cons, List.map_nil]); first | done | rfl | (simp only [List.length_drop, List.length_take]; rfl)) ?_; (with_reducible refine (signalbenchref07_Same.calls k2 _ _ t294 _ _ t307 false _ ?side1 ?side2 ?side3 ?side4 A25.out).mono ?_); (case side1 => refine (Kd.R_reads' (e := 27) (base := w.heap.size) (ok := fun k_ => some k_ ≠ (.slice Ao94 t307.length co94 : Value).ownBlock) (n := t294.length) (c := co93) ?_).2.2; exact (by (with_reducible repeat (first | apply Kd.R_alloc | apply Kd.R_drewN | apply Kd.R_drew)); exact (Kd.R_mono (Kd.R_far (p := ⟨gb310, 7, none⟩) (Kd.R_far (p := ⟨gb310, 6, none⟩) (Kd.R_far (p := ⟨gb310, 5, none⟩) (Kd.R_far (p := ⟨gb310, 4, none⟩) (Kd.R_far (p := ⟨gb310, 3, none⟩) (Kd.R_far (p := ⟨gb310, 2, none⟩) (Kd.R_far (p := ⟨gb310, 1, none⟩) (Kd.R_far (p := ⟨gb310, 0, none⟩) (Kd.R_types HO296.out BK310.out (by decide)) (fun _ hk => hk.2) (.int .i64 t299)) (fun _ hk => hk.2) (.int .i64 t300)) (fun _ hk => hk.2) (.int .i64 t301)) (fun _ hk => hk.2) (.int .i64 t302)) (fun _ hk => hk.2) (.int .i64 t303)) (fun _ hk => hk.2) (.int .i64 t304)) (fun _ hk => hk.2) (.int .i64 t305)) (fun _ hk => hk.2) (.string t306)) (fun _ h_ => h_.1)))); (case side2 => exact (Kd.R_reads' HO296.out).2.1); (case side3 => refine (Kd.R_reads' (e := 27) (base := w.heap.size) (ok := fun k_ => some k_ ≠ (.slice Ao93 t294.length co93 : Value).ownBlock) (n := t307.length) (c := co94) ?_).2.2; exact (by (with_reducible repeat (first | apply Kd.R_alloc | apply Kd.R_drewN | apply Kd.R_drew)); exact (Kd.R_mono (Kd.R_far (p := ⟨gb310, 7, none⟩) (Kd.R_far (p := ⟨gb310, 6, none⟩) (Kd.R_far (p := ⟨gb310, 5, none⟩) (Kd.R_far (p := ⟨gb310, 4, none⟩) (Kd.R_far (p := ⟨gb310, 3, none⟩) (Kd.R_far (p := ⟨gb310, 2, none⟩) (Kd.R_far (p := ⟨gb310, 1, none⟩) (Kd.R_far (p := ⟨gb310, 0, none⟩) (Kd.R_types HO309.out BK310.out (by decide)) (fun _ hk => hk.2) (.int .i64 t299)) (fun _ hk => hk.2) (.int .i64 t300)) (fun _ hk => hk.2) (.int .i64 t301)) (fun _ hk => hk.2) (.int .i64 t302)) (fun _ hk => hk.2) (.int .i64 t303)) (fun _ hk => hk.2) (.int .i64 t304)) (fun _ hk => hk.2) (.int .i64 t305)) (fun _ hk => hk.2) (.string t306)) (fun _ h_ => h_.1)))); (case side4 => exact (Kd.R_reads' HO309.out).2.1); rintro e w' ⟨rfl, ⟨nd, rfl⟩⟩; refine ⟨_, rfl, ?_⟩))
        go_ret
        exact ⟨by first | rfl | (simp [errW_none, errW_some] <;> rfl) | (simp [*, errW_none, errW_some] <;> rfl), by repeat (first | (with_reducible first | exact HB.out | apply below_alloc | apply pw_below_drewN | apply below_drew1 | refine below_set ?_ GE265.out | refine below_set ?_ GE275.out | refine below_set ?_ GE284.out | refine below_set ?_ GE297.out | refine below_set ?_ GE310.out) | exact HB.out)⟩
      ·rw [if_neg c22] at H
       exact absurd H (by simp)
     ·rw [if_neg c21] at H
      have c21b0 : decide (x7_2 < (l1.length : Int)) = false := decide_eq_false c21
      clear c21
      replace H := Option.bind_eq_some_iff.mp H
      obtain ⟨t312, A950, H⟩ := H
      replace H : (if (t312.length : Int) = 0 then ((scramble_Decode.f k2 a0_0 a0_1 l1).bind fun t315 => ((signalbenchref20_Decode.f k2 a0_0 a0_1 l1).bind fun t318 => ((signalbenchref07_Same.f k2 t315 t318).bind fun t321 => (if t321 = true then ((signalbenchlaw20_awake.f k2).bind fun t322 => (some t322)) else (some false))))) else (some false)) = some r := H
      have A95 := Aside0.mk A950
      clear A950
      by_cases c96 : (t312.length : Int) = 0
      ·rw [if_pos c96] at H
       have c96b0 : ((t312.length : Int) == 0) = true := beq_iff_eq.mpr c96
       have c96b1 : ((t312.length : Int) != 0) = false := bne_eq_false_iff_eq.mpr c96
       clear c96
       replace H := Option.bind_eq_some_iff.mp H
       obtain ⟨t315, A970, H⟩ := H
       replace H : ((signalbenchref20_Decode.f k2 a0_0 a0_1 l1).bind fun t318 => ((signalbenchref07_Same.f k2 t315 t318).bind fun t321 => (if t321 = true then ((signalbenchlaw20_awake.f k2).bind fun t322 => (some t322)) else (some false)))) = some r := H
       have A97 := Aside0.mk A970
       clear A970
       replace H := Option.bind_eq_some_iff.mp H
       obtain ⟨t318, A980, H⟩ := H
       replace H : ((signalbenchref07_Same.f k2 t315 t318).bind fun t321 => (if t321 = true then ((signalbenchlaw20_awake.f k2).bind fun t322 => (some t322)) else (some false))) = some r := H
       have A98 := Aside0.mk A980
       clear A980
       replace H := Option.bind_eq_some_iff.mp H
       obtain ⟨t321, A990, H⟩ := H
       replace H : (if t321 = true then ((signalbenchlaw20_awake.f k2).bind fun t322 => (some t322)) else (some false)) = some r := H
       have A99 := Aside0.mk A990
       clear A990
       by_cases c100 : t321 = true
       ·subst c100
        have H1 : ((signalbenchlaw20_awake.f k2).bind fun t322 => (some t322)) = some r := by rw [if_pos rfl] at H; exact H
        clear H
        have H := H1
        clear H1
        replace H := Option.bind_eq_some_iff.mp H
        obtain ⟨t322, A1010, H⟩ := H
        replace H : (some t322) = some r := H
        have A101 := Aside0.mk A1010
        clear A1010
        obtain rfl := Option.some.inj H
        try go_wp2
        have n0_ := Aside0.mk (blk_drew BK265.out)
        have n1_ := Aside0.mk (blk_drew BK275.out)
        have n2_ := Aside0.mk (blk_drew BK284.out)
        have n3_ := Aside0.mk (below_drew1 HB.out)
        clear BK265
        clear BK275
        clear BK284
        clear HB
        have BK265 := n0_
        have BK275 := n1_
        have BK284 := n2_
        have HB := n3_
        clear n0_ n1_ n2_ n3_
        refine start_ (n := 18) (S := fun w' => w'.cell? ⟨gb265, 0, none⟩ = some (.int .i64 a0_0) ∧ w'.cell? ⟨gb265, 1, none⟩ = some (.int .i64 a0_1) ∧ w'.cell? ⟨gb275, 0, none⟩ = some (.int .i64 x276000_2) ∧ w'.cell? ⟨gb275, 1, none⟩ = some (.int .i64 x276001_2) ∧ w'.cell? ⟨gb275, 2, none⟩ = some (.int .i64 x276002_2) ∧ w'.cell? ⟨gb275, 3, none⟩ = some (.int .i64 x276003_2) ∧ w'.cell? ⟨gb275, 4, none⟩ = some (.int .i64 x276004_2) ∧ w'.cell? ⟨gb275, 5, none⟩ = some (.int .i64 x276005_2) ∧ w'.cell? ⟨gb275, 6, none⟩ = some (.int .i64 x276006_2) ∧ w'.cell? ⟨gb275, 7, none⟩ = some (.string x276007_2)) (ds := []) #[false, false, false, false, false, false, false, false, false, false, false, false, false, false, false, false, false, false] (by kernel_rfl) rfl rfl ⟨(blk_cell BK265.out 0).trans rfl, (blk_cell BK265.out 1).trans rfl, (blk_cell BK275.out 0).trans rfl, (blk_cell BK275.out 1).trans rfl, (blk_cell BK275.out 2).trans rfl, (blk_cell BK275.out 3).trans rfl, (blk_cell BK275.out 4).trans rfl, (blk_cell BK275.out 5).trans rfl, (blk_cell BK275.out 6).trans rfl, (blk_cell BK275.out 7).trans rfl⟩ (fun hHeld => ?_); refine with_tabW signalbenchlaw20_ScrambleDecodes.tab14 signalbenchlaw20_ScrambleDecodes.bits14 (fun HT_ HW_ => ?_)
        generalize wr.drew = w102 at BK265 BK275 BK284 HB hHeld ⊢
        refine take_ (i := 0) (N := some 52) (v := ?_) (a' := ?_) #[true, false, false, false, false, false, false, false, false, false, false, false, false, false, false, false, false, false] rfl rfl (take_ofW HT_.out HW_.out (by kernel_rfl)) (fun _ _ _ h => h) (Or.inl ⟨by rfl, ?_⟩) hHeld ?_ ?_
        rotate_left
        ·rintro w' ⟨s0, s1, s2, s3, s4, s5, s6, s7, s8, s9⟩
         go_simp
         with_reducible rfl
        rotate_left
        ·simp only [Act.put, nrm]
         rfl
        refine take_ (i := 1) (N := some 53) (v := ?_) (a' := ?_) #[true, true, false, false, false, false, false, false, false, false, false, false, false, false, false, false, false, false] rfl rfl (take_ofW HT_.out HW_.out (by kernel_rfl)) (fun _ _ _ h => h) (Or.inl ⟨by rfl, ?_⟩) hHeld ?_ ?_
        rotate_left
        ·rintro w' ⟨s0, s1, s2, s3, s4, s5, s6, s7, s8, s9⟩
         go_simp
         with_reducible rfl
        rotate_left
        ·simp only [Act.put, nrm]
         rfl
        refine one_ (i := 2) (N := some 54) #[true, true, true, false, false, false, false, false, false, false, false, false, false, false, false, false, false, false] rfl rfl (one_of HT_.out (by kernel_rfl)) (by decide) (fun K hK => ?_)
        refine goes_ Try.func15 (by kernel_rfl) rfl #[.agg #[.int .i64 a0_0, .int .i64 a0_1], .agg #[.int .i64 x276000_2, .int .i64 x276001_2, .int .i64 x276002_2, .int .i64 x276003_2, .int .i64 x276004_2, .int .i64 x276005_2, .int .i64 x276006_2, .string x276007_2]] (by rfl) rfl rfl (by (try simp only [List.map_toArray, List.map_cons, List.map_nil]); first | done | rfl | (simp only [List.length_drop, List.length_take]; rfl)) ?_
        with_reducible refine (scramble_End.calls a0_0 a0_1 x276000_2 x276001_2 x276002_2 x276003_2 x276004_2 x276005_2 x276006_2 x276007_2 t312 _ A95.out).mono ?_
        rintro e w103 ⟨v313, rfl, ho0, hb⟩
        refine ⟨_, rfl, ?_⟩
        have n0_ := Aside0.mk (Kd.R_lower ho0 (below_size (hbw HB.out)))
        have n1_ := Aside0.mk (blkb BK265.out hb)
        have n2_ := Aside0.mk (blkb BK275.out hb)
        have n3_ := Aside0.mk (blkb BK284.out hb)
        have n4_ := Aside0.mk (below_step (hbw HB.out) hb)
        clear BK265
        clear BK275
        clear BK284
        clear HB
        have HO314 := n0_
        have BK265 := n1_
        have BK275 := n2_
        have BK284 := n3_
        have HB := n4_
        clear n0_ n1_ n2_ n3_ n4_
        (try clear hb)
        (try clear hb2)
        (try clear hk)
        (try clear hi)
        (try clear ho0)
        obtain ⟨Ao104, co104, eo104⟩ := Kd.R_slice HO314.out
        (first | subst eo104 | (injection eo104 with f1_ f2_ f3_; have f4_ := f1_.symm; have f5_ := f3_.symm; clear f1_ f2_ f3_; subst f4_; subst f5_))
        refine hK.out _ _ ⟨(blk_cell BK265.out 0).trans rfl, (blk_cell BK265.out 1).trans rfl, (blk_cell BK275.out 0).trans rfl, (blk_cell BK275.out 1).trans rfl, (blk_cell BK275.out 2).trans rfl, (blk_cell BK275.out 3).trans rfl, (blk_cell BK275.out 4).trans rfl, (blk_cell BK275.out 5).trans rfl, (blk_cell BK275.out 6).trans rfl, (blk_cell BK275.out 7).trans rfl⟩ (fun hHeld => ?_)
        clear hK K
        refine norm_ (a' := ?_) ?_ ?_
        rotate_left
        ·show Act.put _ (some 54) _ = _
         simp only [Act.put, nrm]
         rfl
        refine pstep 3 (some 55) #[true, true, true, true, false, false, false, false, false, false, false, false, false, false, false, false, false, false] HT_.out ?_
        refine pstep 4 (some 56) #[true, true, true, true, true, false, false, false, false, false, false, false, false, false, false, false, false, false] HT_.out ?_
        refine pstep 5 (some 57) #[true, true, true, true, true, true, false, false, false, false, false, false, false, false, false, false, false, false] HT_.out ?_
        refine pstep 7 (some 59) #[true, true, true, true, true, true, false, true, false, false, false, false, false, false, false, false, false, false] HT_.out ?_
        refine pstep 10 (some 62) #[true, true, true, true, true, true, false, true, false, false, true, false, false, false, false, false, false, false] HT_.out ?_
        refine take_ (i := 6) (N := some 58) (v := ?_) (a' := ?_) #[true, true, true, true, true, true, true, true, false, false, true, false, false, false, false, false, false, false] rfl rfl (take_ofW HT_.out HW_.out (by kernel_rfl)) (fun _ _ _ h => h) (Or.inl ⟨by rfl, ?_⟩) hHeld ?_ ?_
        rotate_left
        ·rintro w' ⟨s0, s1, s2, s3, s4, s5, s6, s7, s8, s9⟩
         go_simp
         with_reducible rfl
        rotate_left
        ·simp only [Act.put, nrm]
         rfl
        refine take_ (i := 9) (N := some 61) (v := ?_) (a' := ?_) #[true, true, true, true, true, true, true, true, false, true, true, false, false, false, false, false, false, false] rfl rfl (take_ofW HT_.out HW_.out (by kernel_rfl)) (fun _ _ _ h => h) (Or.inl ⟨by rfl, ?_⟩) hHeld ?_ ?_
        rotate_left
        ·rintro w' ⟨s0, s1, s2, s3, s4, s5, s6, s7, s8, s9⟩
         go_simp
         with_reducible rfl
        rotate_left
        ·simp only [Act.put, nrm]
         rfl
        refine one_ (i := 8) (N := some 60) #[true, true, true, true, true, true, true, true, true, true, true, false, false, false, false, false, false, false] rfl rfl (one_of HT_.out (by kernel_rfl)) (by decide) (fun K hK => ?_)
        refine goes_ Try.func16 (by kernel_rfl) rfl #[.agg #[.int .i64 a0_0, .int .i64 a0_1], .slice A1 l1.length c1] (by rfl) rfl rfl (by (try simp only [List.map_toArray, List.map_cons, List.map_nil]); first | done | rfl | (simp only [List.length_drop, List.length_take]; rfl)) ?_
        with_reducible refine (scramble_Decode.calls k2 a0_0 a0_1 _ _ l1 t315 _ ?side1 ?side2 A97.out).mono ?_
        (case side1 => repeat (first | exact (Kd.C_below HR1.out HB.out) | (with_reducible refine Kd.C_alloc ?_ _) | (with_reducible refine Kd.C_drewN ?_ _) | (with_reducible refine Kd.C_drew ?_)))
        (case side2 => exact HC1.out)
        rintro e w105 ⟨v316, rfl, ho0, hb⟩
        refine ⟨_, rfl, ?_⟩
        have n0_ := Aside0.mk (Kd.R_elder' (rkw HO314.out) (Kd.R_base ho0) hb)
        have n1_ := Aside0.mk (Kd.R_lower (Kd.R_new' ho0 (Kd.R_lt (rkw HO314.out))) (below_size (hbw HB.out)))
        have n2_ := Aside0.mk (blkb BK265.out hb)
        have n3_ := Aside0.mk (blkb BK275.out hb)
        have n4_ := Aside0.mk (blkb BK284.out hb)
        have n5_ := Aside0.mk (below_step (hbw HB.out) hb)
        clear HO314
        clear BK265
        clear BK275
        clear BK284
        clear HB
        have HO314 := n0_
        have HO317 := n1_
        have BK265 := n2_
        have BK275 := n3_
        have BK284 := n4_
        have HB := n5_
        clear n0_ n1_ n2_ n3_ n4_ n5_
        (try clear hb)
        (try clear hb2)
        (try clear hk)
        (try clear hi)
        (try clear ho0)
        refine hK.out _ _ ⟨(blk_cell BK265.out 0).trans rfl, (blk_cell BK265.out 1).trans rfl, (blk_cell BK275.out 0).trans rfl, (blk_cell BK275.out 1).trans rfl, (blk_cell BK275.out 2).trans rfl, (blk_cell BK275.out 3).trans rfl, (blk_cell BK275.out 4).trans rfl, (blk_cell BK275.out 5).trans rfl, (blk_cell BK275.out 6).trans rfl, (blk_cell BK275.out 7).trans rfl⟩ (fun hHeld => ?_)
        clear hK K
        refine norm_ (a' := ?_) ?_ ?_
        rotate_left
        ·show Act.put _ (some 60) _ = _
         simp only [Act.put, nrm]
         rfl
        refine one_ (i := 11) (N := some 63) #[true, true, true, true, true, true, true, true, true, true, true, true, false, false, false, false, false, false] rfl rfl (one_of HT_.out (by kernel_rfl)) (by decide) (fun K hK => ?_)
        refine goes_ Try.func20 (by kernel_rfl) rfl #[.agg #[.int .i64 a0_0, .int .i64 a0_1], .slice A1 l1.length c1] (by rfl) rfl rfl (by (try simp only [List.map_toArray, List.map_cons, List.map_nil]); first | done | rfl | (simp only [List.length_drop, List.length_take]; rfl)) ?_
        with_reducible refine (signalbenchref20_Decode.calls k2 a0_0 a0_1 _ _ l1 t318 _ ?side1 ?side2 A98.out).mono ?_
        (case side1 => repeat (first | exact (Kd.C_below HR1.out HB.out) | (with_reducible refine Kd.C_alloc ?_ _) | (with_reducible refine Kd.C_drewN ?_ _) | (with_reducible refine Kd.C_drew ?_)))
        (case side2 => exact HC1.out)
        rintro e w106 ⟨v319, rfl, ho0, hb⟩
        refine ⟨_, rfl, ?_⟩
        have n0_ := Aside0.mk (Kd.R_elder' (rkw HO314.out) (Kd.R_base ho0) hb)
        have n1_ := Aside0.mk (Kd.R_elder' (rkw HO317.out) (Kd.R_base ho0) hb)
        have n2_ := Aside0.mk (Kd.R_lower (Kd.R_new' (Kd.R_new' ho0 (Kd.R_lt (rkw HO314.out))) (Kd.R_lt (rkw HO317.out))) (below_size (hbw HB.out)))
        have n3_ := Aside0.mk (blkb BK265.out hb)
        have n4_ := Aside0.mk (blkb BK275.out hb)
        have n5_ := Aside0.mk (blkb BK284.out hb)
        have n6_ := Aside0.mk (below_step (hbw HB.out) hb)
        clear HO314
        clear HO317
        clear BK265
        clear BK275
        clear BK284
        clear HB
        have HO314 := n0_
        have HO317 := n1_
        have HO320 := n2_
        have BK265 := n3_
        have BK275 := n4_
        have BK284 := n5_
        have HB := n6_
        clear n0_ n1_ n2_ n3_ n4_ n5_ n6_
        (try clear hb)
        (try clear hb2)
        (try clear hk)
        (try clear hi)
        (try clear ho0)
        obtain ⟨Ao107, co107, eo107⟩ := Kd.R_slice HO317.out
        (first | subst eo107 | (injection eo107 with f1_ f2_ f3_; have f4_ := f1_.symm; have f5_ := f3_.symm; clear f1_ f2_ f3_; subst f4_; subst f5_))
        obtain ⟨Ao108, co108, eo108⟩ := Kd.R_slice HO320.out
        (first | subst eo108 | (injection eo108 with f1_ f2_ f3_; have f4_ := f1_.symm; have f5_ := f3_.symm; clear f1_ f2_ f3_; subst f4_; subst f5_))
        refine hK.out _ _ ⟨(blk_cell BK265.out 0).trans rfl, (blk_cell BK265.out 1).trans rfl, (blk_cell BK275.out 0).trans rfl, (blk_cell BK275.out 1).trans rfl, (blk_cell BK275.out 2).trans rfl, (blk_cell BK275.out 3).trans rfl, (blk_cell BK275.out 4).trans rfl, (blk_cell BK275.out 5).trans rfl, (blk_cell BK275.out 6).trans rfl, (blk_cell BK275.out 7).trans rfl⟩ (fun hHeld => ?_)
        clear hK K
        refine norm_ (a' := ?_) ?_ ?_
        rotate_left
        ·show Act.put _ (some 63) _ = _
         simp only [Act.put, nrm]
         rfl
        refine one_ (i := 12) (N := some 64) #[true, true, true, true, true, true, true, true, true, true, true, true, true, false, false, false, false, false] rfl rfl (one_of HT_.out (by kernel_rfl)) (by decide) (fun K hK => ?_)
        refine goes_ Try.func19 (by kernel_rfl) rfl #[.slice Ao107 t315.length co107, .slice Ao108 t318.length co108] (by rfl) rfl rfl (by (try simp only [List.map_toArray, List.map_cons, List.map_nil]); first | done | rfl | (simp only [List.length_drop, List.length_take]; rfl)) ?_
        with_reducible refine (signalbenchref07_Same.calls k2 _ _ t315 _ _ t318 true _ ?side1 ?side2 ?side3 ?side4 A99.out).mono ?_
        (case side1 => repeat (first | exact (Kd.R_reads' HO317.out).2.2 | (with_reducible refine Kd.C_alloc ?_ _) | (with_reducible refine Kd.C_drewN ?_ _) | (with_reducible refine Kd.C_drew ?_)))
        (case side2 => exact (Kd.R_reads' HO317.out).2.1)
        (case side3 => repeat (first | exact (Kd.R_reads' HO320.out).2.2 | (with_reducible refine Kd.C_alloc ?_ _) | (with_reducible refine Kd.C_drewN ?_ _) | (with_reducible refine Kd.C_drew ?_)))
        (case side4 => exact (Kd.R_reads' HO320.out).2.1)
        rintro e w' ⟨rfl, ⟨nd, rfl⟩⟩
        refine ⟨_, rfl, ?_⟩
        refine hK.out _ _ ⟨(blk_cell BK265.out 0).trans rfl, (blk_cell BK265.out 1).trans rfl, (blk_cell BK275.out 0).trans rfl, (blk_cell BK275.out 1).trans rfl, (blk_cell BK275.out 2).trans rfl, (blk_cell BK275.out 3).trans rfl, (blk_cell BK275.out 4).trans rfl, (blk_cell BK275.out 5).trans rfl, (blk_cell BK275.out 6).trans rfl, (blk_cell BK275.out 7).trans rfl⟩ (fun hHeld => ?_)
        clear hK K
        refine norm_ (a' := ?_) ?_ ?_
        rotate_left
        ·show Act.put _ (some 64) _ = _
         simp only [Act.put, nrm]
         rfl
        refine pstep 13 (some 65) #[true, true, true, true, true, true, true, true, true, true, true, true, true, true, false, false, false, false] HT_.out ?_
        refine pstep 14 (some 66) #[true, true, true, true, true, true, true, true, true, true, true, true, true, true, true, false, false, false] HT_.out ?_
        refine one_ (i := 15) (N := some 67) #[true, true, true, true, true, true, true, true, true, true, true, true, true, true, true, true, false, false] rfl rfl (one_of HT_.out (by kernel_rfl)) (by decide) (fun K hK => ?_)
        refine goes_ Try.func11 (by kernel_rfl) rfl #[] (by rfl) rfl rfl (by (try simp only [List.map_toArray, List.map_cons, List.map_nil]); first | done | rfl | (simp only [List.length_drop, List.length_take]; rfl)) ?_
        with_reducible refine (signalbenchlaw20_awake.calls k2  t322 _ A101.out).mono ?_
        rintro e w109 ⟨rfl, hb⟩
        refine ⟨_, rfl, ?_⟩
        have n0_ := Aside0.mk (Kd.R_below (rkw HO314.out) hb)
        have n1_ := Aside0.mk (Kd.R_below (rkw HO317.out) hb)
        have n2_ := Aside0.mk (Kd.R_below (rkw HO320.out) hb)
        have n3_ := Aside0.mk (blkb BK265.out hb)
        have n4_ := Aside0.mk (blkb BK275.out hb)
        have n5_ := Aside0.mk (blkb BK284.out hb)
        have n6_ := Aside0.mk (below_step (hbw HB.out) hb)
        clear HO314
        clear HO317
        clear HO320
        clear BK265
        clear BK275
        clear BK284
        clear HB
        have HO314 := n0_
        have HO317 := n1_
        have HO320 := n2_
        have BK265 := n3_
        have BK275 := n4_
        have BK284 := n5_
        have HB := n6_
        clear n0_ n1_ n2_ n3_ n4_ n5_ n6_
        (try clear hb)
        (try clear hb2)
        (try clear hk)
        (try clear hi)
        refine hK.out _ _ ⟨(blk_cell BK265.out 0).trans rfl, (blk_cell BK265.out 1).trans rfl, (blk_cell BK275.out 0).trans rfl, (blk_cell BK275.out 1).trans rfl, (blk_cell BK275.out 2).trans rfl, (blk_cell BK275.out 3).trans rfl, (blk_cell BK275.out 4).trans rfl, (blk_cell BK275.out 5).trans rfl, (blk_cell BK275.out 6).trans rfl, (blk_cell BK275.out 7).trans rfl⟩ (fun hHeld => ?_)
        clear hK K
        refine norm_ (a' := ?_) ?_ ?_
        rotate_left
        ·show Act.put _ (some 67) _ = _
         simp only [Act.put, nrm]
         rfl
        refine pstep 16 (some 68) #[true, true, true, true, true, true, true, true, true, true, true, true, true, true, true, true, true, false] HT_.out ?_
        refine pstep 17 (some 4) #[true, true, true, true, true, true, true, true, true, true, true, true, true, true, true, true, true, true] HT_.out ?_
        refine done_ (done_of HT_.out (by kernel_rfl)) ?_
        try go_wp2
        go_ret
        exact ⟨by first | rfl | (simp [errW_none, errW_some] <;> rfl) | (simp [*, errW_none, errW_some] <;> rfl), by repeat (first | (with_reducible first | exact HB.out | apply below_alloc | apply pw_below_drewN | apply below_drew1 | refine below_set ?_ GE265.out | refine below_set ?_ GE275.out | refine below_set ?_ GE284.out) | exact HB.out)⟩
       ·replace c100 := Bool.eq_false_iff.mpr c100
        subst c100
        have H1 : (some false) = some r := by rw [if_neg (show ¬ (false = true) by decide)] at H; exact H
        clear H
        have H := H1
        clear H1
        obtain rfl := Option.some.inj H
        try go_wp2
        have n0_ := Aside0.mk (blk_drew BK265.out)
        have n1_ := Aside0.mk (blk_drew BK275.out)
        have n2_ := Aside0.mk (blk_drew BK284.out)
        have n3_ := Aside0.mk (below_drew1 HB.out)
        clear BK265
        clear BK275
        clear BK284
        clear HB
        have BK265 := n0_
        have BK275 := n1_
        have BK284 := n2_
        have HB := n3_
        clear n0_ n1_ n2_ n3_
        refine start_ (n := 18) (S := fun w' => w'.cell? ⟨gb265, 0, none⟩ = some (.int .i64 a0_0) ∧ w'.cell? ⟨gb265, 1, none⟩ = some (.int .i64 a0_1) ∧ w'.cell? ⟨gb275, 0, none⟩ = some (.int .i64 x276000_2) ∧ w'.cell? ⟨gb275, 1, none⟩ = some (.int .i64 x276001_2) ∧ w'.cell? ⟨gb275, 2, none⟩ = some (.int .i64 x276002_2) ∧ w'.cell? ⟨gb275, 3, none⟩ = some (.int .i64 x276003_2) ∧ w'.cell? ⟨gb275, 4, none⟩ = some (.int .i64 x276004_2) ∧ w'.cell? ⟨gb275, 5, none⟩ = some (.int .i64 x276005_2) ∧ w'.cell? ⟨gb275, 6, none⟩ = some (.int .i64 x276006_2) ∧ w'.cell? ⟨gb275, 7, none⟩ = some (.string x276007_2)) (ds := []) #[false, false, false, false, false, false, false, false, false, false, false, false, false, false, false, false, false, false] (by kernel_rfl) rfl rfl ⟨(blk_cell BK265.out 0).trans rfl, (blk_cell BK265.out 1).trans rfl, (blk_cell BK275.out 0).trans rfl, (blk_cell BK275.out 1).trans rfl, (blk_cell BK275.out 2).trans rfl, (blk_cell BK275.out 3).trans rfl, (blk_cell BK275.out 4).trans rfl, (blk_cell BK275.out 5).trans rfl, (blk_cell BK275.out 6).trans rfl, (blk_cell BK275.out 7).trans rfl⟩ (fun hHeld => ?_); refine with_tabW signalbenchlaw20_ScrambleDecodes.tab14 signalbenchlaw20_ScrambleDecodes.bits14 (fun HT_ HW_ => ?_)
        generalize wr.drew = w110 at BK265 BK275 BK284 HB hHeld ⊢
        refine take_ (i := 0) (N := some 52) (v := ?_) (a' := ?_) #[true, false, false, false, false, false, false, false, false, false, false, false, false, false, false, false, false, false] rfl rfl (take_ofW HT_.out HW_.out (by kernel_rfl)) (fun _ _ _ h => h) (Or.inl ⟨by rfl, ?_⟩) hHeld ?_ ?_
        rotate_left
        ·rintro w' ⟨s0, s1, s2, s3, s4, s5, s6, s7, s8, s9⟩
         go_simp
         with_reducible rfl
        rotate_left
        ·simp only [Act.put, nrm]
         rfl
        refine take_ (i := 1) (N := some 53) (v := ?_) (a' := ?_) #[true, true, false, false, false, false, false, false, false, false, false, false, false, false, false, false, false, false] rfl rfl (take_ofW HT_.out HW_.out (by kernel_rfl)) (fun _ _ _ h => h) (Or.inl ⟨by rfl, ?_⟩) hHeld ?_ ?_
        rotate_left
        ·rintro w' ⟨s0, s1, s2, s3, s4, s5, s6, s7, s8, s9⟩
         go_simp
         with_reducible rfl
        rotate_left
        ·simp only [Act.put, nrm]
         rfl
        refine one_ (i := 2) (N := some 54) #[true, true, true, false, false, false, false, false, false, false, false, false, false, false, false, false, false, false] rfl rfl (one_of HT_.out (by kernel_rfl)) (by decide) (fun K hK => ?_)
        refine goes_ Try.func15 (by kernel_rfl) rfl #[.agg #[.int .i64 a0_0, .int .i64 a0_1], .agg #[.int .i64 x276000_2, .int .i64 x276001_2, .int .i64 x276002_2, .int .i64 x276003_2, .int .i64 x276004_2, .int .i64 x276005_2, .int .i64 x276006_2, .string x276007_2]] (by rfl) rfl rfl (by (try simp only [List.map_toArray, List.map_cons, List.map_nil]); first | done | rfl | (simp only [List.length_drop, List.length_take]; rfl)) ?_
        with_reducible refine (scramble_End.calls a0_0 a0_1 x276000_2 x276001_2 x276002_2 x276003_2 x276004_2 x276005_2 x276006_2 x276007_2 t312 _ A95.out).mono ?_
        rintro e w111 ⟨v313, rfl, ho0, hb⟩
        refine ⟨_, rfl, ?_⟩
        have n0_ := Aside0.mk (Kd.R_lower ho0 (below_size (hbw HB.out)))
        have n1_ := Aside0.mk (blkb BK265.out hb)
        have n2_ := Aside0.mk (blkb BK275.out hb)
        have n3_ := Aside0.mk (blkb BK284.out hb)
        have n4_ := Aside0.mk (below_step (hbw HB.out) hb)
        clear BK265
        clear BK275
        clear BK284
        clear HB
        have HO314 := n0_
        have BK265 := n1_
        have BK275 := n2_
        have BK284 := n3_
        have HB := n4_
        clear n0_ n1_ n2_ n3_ n4_
        (try clear hb)
        (try clear hb2)
        (try clear hk)
        (try clear hi)
        (try clear ho0)
        obtain ⟨Ao112, co112, eo112⟩ := Kd.R_slice HO314.out
        (first | subst eo112 | (injection eo112 with f1_ f2_ f3_; have f4_ := f1_.symm; have f5_ := f3_.symm; clear f1_ f2_ f3_; subst f4_; subst f5_))
        refine hK.out _ _ ⟨(blk_cell BK265.out 0).trans rfl, (blk_cell BK265.out 1).trans rfl, (blk_cell BK275.out 0).trans rfl, (blk_cell BK275.out 1).trans rfl, (blk_cell BK275.out 2).trans rfl, (blk_cell BK275.out 3).trans rfl, (blk_cell BK275.out 4).trans rfl, (blk_cell BK275.out 5).trans rfl, (blk_cell BK275.out 6).trans rfl, (blk_cell BK275.out 7).trans rfl⟩ (fun hHeld => ?_)
        clear hK K
        refine norm_ (a' := ?_) ?_ ?_
        rotate_left
        ·show Act.put _ (some 54) _ = _
         simp only [Act.put, nrm]
         rfl
        refine pstep 3 (some 55) #[true, true, true, true, false, false, false, false, false, false, false, false, false, false, false, false, false, false] HT_.out ?_
        refine pstep 4 (some 56) #[true, true, true, true, true, false, false, false, false, false, false, false, false, false, false, false, false, false] HT_.out ?_
        refine pstep 5 (some 57) #[true, true, true, true, true, true, false, false, false, false, false, false, false, false, false, false, false, false] HT_.out ?_
        refine pstep 7 (some 59) #[true, true, true, true, true, true, false, true, false, false, false, false, false, false, false, false, false, false] HT_.out ?_
        refine pstep 10 (some 62) #[true, true, true, true, true, true, false, true, false, false, true, false, false, false, false, false, false, false] HT_.out ?_
        refine take_ (i := 6) (N := some 58) (v := ?_) (a' := ?_) #[true, true, true, true, true, true, true, true, false, false, true, false, false, false, false, false, false, false] rfl rfl (take_ofW HT_.out HW_.out (by kernel_rfl)) (fun _ _ _ h => h) (Or.inl ⟨by rfl, ?_⟩) hHeld ?_ ?_
        rotate_left
        ·rintro w' ⟨s0, s1, s2, s3, s4, s5, s6, s7, s8, s9⟩
         go_simp
         with_reducible rfl
        rotate_left
        ·simp only [Act.put, nrm]
         rfl
        refine take_ (i := 9) (N := some 61) (v := ?_) (a' := ?_) #[true, true, true, true, true, true, true, true, false, true, true, false, false, false, false, false, false, false] rfl rfl (take_ofW HT_.out HW_.out (by kernel_rfl)) (fun _ _ _ h => h) (Or.inl ⟨by rfl, ?_⟩) hHeld ?_ ?_
        rotate_left
        ·rintro w' ⟨s0, s1, s2, s3, s4, s5, s6, s7, s8, s9⟩
         go_simp
         with_reducible rfl
        rotate_left
        ·simp only [Act.put, nrm]
         rfl
        refine one_ (i := 8) (N := some 60) #[true, true, true, true, true, true, true, true, true, true, true, false, false, false, false, false, false, false] rfl rfl (one_of HT_.out (by kernel_rfl)) (by decide) (fun K hK => ?_)
        refine goes_ Try.func16 (by kernel_rfl) rfl #[.agg #[.int .i64 a0_0, .int .i64 a0_1], .slice A1 l1.length c1] (by rfl) rfl rfl (by (try simp only [List.map_toArray, List.map_cons, List.map_nil]); first | done | rfl | (simp only [List.length_drop, List.length_take]; rfl)) ?_
        with_reducible refine (scramble_Decode.calls k2 a0_0 a0_1 _ _ l1 t315 _ ?side1 ?side2 A97.out).mono ?_
        (case side1 => repeat (first | exact (Kd.C_below HR1.out HB.out) | (with_reducible refine Kd.C_alloc ?_ _) | (with_reducible refine Kd.C_drewN ?_ _) | (with_reducible refine Kd.C_drew ?_)))
        (case side2 => exact HC1.out)
        rintro e w113 ⟨v316, rfl, ho0, hb⟩
        refine ⟨_, rfl, ?_⟩
        have n0_ := Aside0.mk (Kd.R_elder' (rkw HO314.out) (Kd.R_base ho0) hb)
        have n1_ := Aside0.mk (Kd.R_lower (Kd.R_new' ho0 (Kd.R_lt (rkw HO314.out))) (below_size (hbw HB.out)))
        have n2_ := Aside0.mk (blkb BK265.out hb)
        have n3_ := Aside0.mk (blkb BK275.out hb)
        have n4_ := Aside0.mk (blkb BK284.out hb)
        have n5_ := Aside0.mk (below_step (hbw HB.out) hb)
        clear HO314
        clear BK265
        clear BK275
        clear BK284
        clear HB
        have HO314 := n0_
        have HO317 := n1_
        have BK265 := n2_
        have BK275 := n3_
        have BK284 := n4_
        have HB := n5_
        clear n0_ n1_ n2_ n3_ n4_ n5_
        (try clear hb)
        (try clear hb2)
        (try clear hk)
        (try clear hi)
        (try clear ho0)
        refine hK.out _ _ ⟨(blk_cell BK265.out 0).trans rfl, (blk_cell BK265.out 1).trans rfl, (blk_cell BK275.out 0).trans rfl, (blk_cell BK275.out 1).trans rfl, (blk_cell BK275.out 2).trans rfl, (blk_cell BK275.out 3).trans rfl, (blk_cell BK275.out 4).trans rfl, (blk_cell BK275.out 5).trans rfl, (blk_cell BK275.out 6).trans rfl, (blk_cell BK275.out 7).trans rfl⟩ (fun hHeld => ?_)
        clear hK K
        refine norm_ (a' := ?_) ?_ ?_
        rotate_left
        ·show Act.put _ (some 60) _ = _
         simp only [Act.put, nrm]
         rfl
        refine one_ (i := 11) (N := some 63) #[true, true, true, true, true, true, true, true, true, true, true, true, false, false, false, false, false, false] rfl rfl (one_of HT_.out (by kernel_rfl)) (by decide) (fun K hK => ?_)
        refine goes_ Try.func20 (by kernel_rfl) rfl #[.agg #[.int .i64 a0_0, .int .i64 a0_1], .slice A1 l1.length c1] (by rfl) rfl rfl (by (try simp only [List.map_toArray, List.map_cons, List.map_nil]); first | done | rfl | (simp only [List.length_drop, List.length_take]; rfl)) ?_
        with_reducible refine (signalbenchref20_Decode.calls k2 a0_0 a0_1 _ _ l1 t318 _ ?side1 ?side2 A98.out).mono ?_
        (case side1 => repeat (first | exact (Kd.C_below HR1.out HB.out) | (with_reducible refine Kd.C_alloc ?_ _) | (with_reducible refine Kd.C_drewN ?_ _) | (with_reducible refine Kd.C_drew ?_)))
        (case side2 => exact HC1.out)
        rintro e w114 ⟨v319, rfl, ho0, hb⟩
        refine ⟨_, rfl, ?_⟩
        have n0_ := Aside0.mk (Kd.R_elder' (rkw HO314.out) (Kd.R_base ho0) hb)
        have n1_ := Aside0.mk (Kd.R_elder' (rkw HO317.out) (Kd.R_base ho0) hb)
        have n2_ := Aside0.mk (Kd.R_lower (Kd.R_new' (Kd.R_new' ho0 (Kd.R_lt (rkw HO314.out))) (Kd.R_lt (rkw HO317.out))) (below_size (hbw HB.out)))
        have n3_ := Aside0.mk (blkb BK265.out hb)
        have n4_ := Aside0.mk (blkb BK275.out hb)
        have n5_ := Aside0.mk (blkb BK284.out hb)
        have n6_ := Aside0.mk (below_step (hbw HB.out) hb)
        clear HO314
        clear HO317
        clear BK265
        clear BK275
        clear BK284
        clear HB
        have HO314 := n0_
        have HO317 := n1_
        have HO320 := n2_
        have BK265 := n3_
        have BK275 := n4_
        have BK284 := n5_
        have HB := n6_
        clear n0_ n1_ n2_ n3_ n4_ n5_ n6_
        (try clear hb)
        (try clear hb2)
        (try clear hk)
        (try clear hi)
        (try clear ho0)
        obtain ⟨Ao115, co115, eo115⟩ := Kd.R_slice HO317.out
        (first | subst eo115 | (injection eo115 with f1_ f2_ f3_; have f4_ := f1_.symm; have f5_ := f3_.symm; clear f1_ f2_ f3_; subst f4_; subst f5_))
        obtain ⟨Ao116, co116, eo116⟩ := Kd.R_slice HO320.out
        (first | subst eo116 | (injection eo116 with f1_ f2_ f3_; have f4_ := f1_.symm; have f5_ := f3_.symm; clear f1_ f2_ f3_; subst f4_; subst f5_))
        refine hK.out _ _ ⟨(blk_cell BK265.out 0).trans rfl, (blk_cell BK265.out 1).trans rfl, (blk_cell BK275.out 0).trans rfl, (blk_cell BK275.out 1).trans rfl, (blk_cell BK275.out 2).trans rfl, (blk_cell BK275.out 3).trans rfl, (blk_cell BK275.out 4).trans rfl, (blk_cell BK275.out 5).trans rfl, (blk_cell BK275.out 6).trans rfl, (blk_cell BK275.out 7).trans rfl⟩ (fun hHeld => ?_)
        clear hK K
        refine norm_ (a' := ?_) ?_ ?_
        rotate_left
        ·show Act.put _ (some 63) _ = _
         simp only [Act.put, nrm]
         rfl
        refine one_ (i := 12) (N := some 64) #[true, true, true, true, true, true, true, true, true, true, true, true, true, false, false, false, false, false] rfl rfl (one_of HT_.out (by kernel_rfl)) (by decide) (fun K hK => ?_)
        refine goes_ Try.func19 (by kernel_rfl) rfl #[.slice Ao115 t315.length co115, .slice Ao116 t318.length co116] (by rfl) rfl rfl (by (try simp only [List.map_toArray, List.map_cons, List.map_nil]); first | done | rfl | (simp only [List.length_drop, List.length_take]; rfl)) ?_
        with_reducible refine (signalbenchref07_Same.calls k2 _ _ t315 _ _ t318 false _ ?side1 ?side2 ?side3 ?side4 A99.out).mono ?_
        (case side1 => repeat (first | exact (Kd.R_reads' HO317.out).2.2 | (with_reducible refine Kd.C_alloc ?_ _) | (with_reducible refine Kd.C_drewN ?_ _) | (with_reducible refine Kd.C_drew ?_)))
        (case side2 => exact (Kd.R_reads' HO317.out).2.1)
        (case side3 => repeat (first | exact (Kd.R_reads' HO320.out).2.2 | (with_reducible refine Kd.C_alloc ?_ _) | (with_reducible refine Kd.C_drewN ?_ _) | (with_reducible refine Kd.C_drew ?_)))
        (case side4 => exact (Kd.R_reads' HO320.out).2.1)
        rintro e w' ⟨rfl, ⟨nd, rfl⟩⟩
        refine ⟨_, rfl, ?_⟩
        refine hK.out _ _ ⟨(blk_cell BK265.out 0).trans rfl, (blk_cell BK265.out 1).trans rfl, (blk_cell BK275.out 0).trans rfl, (blk_cell BK275.out 1).trans rfl, (blk_cell BK275.out 2).trans rfl, (blk_cell BK275.out 3).trans rfl, (blk_cell BK275.out 4).trans rfl, (blk_cell BK275.out 5).trans rfl, (blk_cell BK275.out 6).trans rfl, (blk_cell BK275.out 7).trans rfl⟩ (fun hHeld => ?_)
        clear hK K
        refine norm_ (a' := ?_) ?_ ?_
        rotate_left
        ·show Act.put _ (some 64) _ = _
         simp only [Act.put, nrm]
         rfl
        refine pstep 13 (some 65) #[true, true, true, true, true, true, true, true, true, true, true, true, true, true, false, false, false, false] HT_.out ?_
        refine pstep 14 (some 66) #[true, true, true, true, true, true, true, true, true, true, true, true, true, true, true, false, false, false] HT_.out ?_
        refine pure_ (i := 15) (N := some 67) (v := undef) (a' := ?_) #[true, true, true, true, true, true, true, true, true, true, true, true, true, true, true, true, false, false] rfl rfl (any_of HT_.out (by kernel_rfl)) (fun _ _ _ h => h) (Or.inr ⟨by rfl, rfl⟩) ?_ ?_
        rotate_left
        ·simp only [Act.put, nrm]
         rfl
        refine pstep 16 (some 68) #[true, true, true, true, true, true, true, true, true, true, true, true, true, true, true, true, true, false] HT_.out ?_
        refine pstep 17 (some 4) #[true, true, true, true, true, true, true, true, true, true, true, true, true, true, true, true, true, true] HT_.out ?_
        refine done_ (done_of HT_.out (by kernel_rfl)) ?_
        try go_wp2
        go_ret
        exact ⟨by first | rfl | (simp [errW_none, errW_some] <;> rfl) | (simp [*, errW_none, errW_some] <;> rfl), by repeat (first | (with_reducible first | exact HB.out | apply below_alloc | apply pw_below_drewN | apply below_drew1 | refine below_set ?_ GE265.out | refine below_set ?_ GE275.out | refine below_set ?_ GE284.out) | exact HB.out)⟩
      ·rw [if_neg c96] at H
       have c96b0 : ((t312.length : Int) == 0) = false := beq_eq_false_iff_ne.mpr c96
       have c96b1 : ((t312.length : Int) != 0) = true := bne_iff_ne.mpr c96
       have c96b2 : ¬ (t312 = []) := fun h_ => c96 (by rw [h_]; rfl)
       obtain rfl := Option.some.inj H
       try go_wp2
       have n0_ := Aside0.mk (blk_drew BK265.out)
       have n1_ := Aside0.mk (blk_drew BK275.out)
       have n2_ := Aside0.mk (blk_drew BK284.out)
       have n3_ := Aside0.mk (below_drew1 HB.out)
       clear BK265
       clear BK275
       clear BK284
       clear HB
       have BK265 := n0_
       have BK275 := n1_
       have BK284 := n2_
       have HB := n3_
       clear n0_ n1_ n2_ n3_
       refine start_ (n := 18) (S := fun w' => w'.cell? ⟨gb265, 0, none⟩ = some (.int .i64 a0_0) ∧ w'.cell? ⟨gb265, 1, none⟩ = some (.int .i64 a0_1) ∧ w'.cell? ⟨gb275, 0, none⟩ = some (.int .i64 x276000_2) ∧ w'.cell? ⟨gb275, 1, none⟩ = some (.int .i64 x276001_2) ∧ w'.cell? ⟨gb275, 2, none⟩ = some (.int .i64 x276002_2) ∧ w'.cell? ⟨gb275, 3, none⟩ = some (.int .i64 x276003_2) ∧ w'.cell? ⟨gb275, 4, none⟩ = some (.int .i64 x276004_2) ∧ w'.cell? ⟨gb275, 5, none⟩ = some (.int .i64 x276005_2) ∧ w'.cell? ⟨gb275, 6, none⟩ = some (.int .i64 x276006_2) ∧ w'.cell? ⟨gb275, 7, none⟩ = some (.string x276007_2)) (ds := []) #[false, false, false, false, false, false, false, false, false, false, false, false, false, false, false, false, false, false] (by kernel_rfl) rfl rfl ⟨(blk_cell BK265.out 0).trans rfl, (blk_cell BK265.out 1).trans rfl, (blk_cell BK275.out 0).trans rfl, (blk_cell BK275.out 1).trans rfl, (blk_cell BK275.out 2).trans rfl, (blk_cell BK275.out 3).trans rfl, (blk_cell BK275.out 4).trans rfl, (blk_cell BK275.out 5).trans rfl, (blk_cell BK275.out 6).trans rfl, (blk_cell BK275.out 7).trans rfl⟩ (fun hHeld => ?_); refine with_tabW signalbenchlaw20_ScrambleDecodes.tab14 signalbenchlaw20_ScrambleDecodes.bits14 (fun HT_ HW_ => ?_)
       generalize wr.drew = w117 at BK265 BK275 BK284 HB hHeld ⊢
       refine take_ (i := 0) (N := some 52) (v := ?_) (a' := ?_) #[true, false, false, false, false, false, false, false, false, false, false, false, false, false, false, false, false, false] rfl rfl (take_ofW HT_.out HW_.out (by kernel_rfl)) (fun _ _ _ h => h) (Or.inl ⟨by rfl, ?_⟩) hHeld ?_ ?_
       rotate_left
       ·rintro w' ⟨s0, s1, s2, s3, s4, s5, s6, s7, s8, s9⟩
        go_simp
        with_reducible rfl
       rotate_left
       ·simp only [Act.put, nrm]
        rfl
       refine take_ (i := 1) (N := some 53) (v := ?_) (a' := ?_) #[true, true, false, false, false, false, false, false, false, false, false, false, false, false, false, false, false, false] rfl rfl (take_ofW HT_.out HW_.out (by kernel_rfl)) (fun _ _ _ h => h) (Or.inl ⟨by rfl, ?_⟩) hHeld ?_ ?_
       rotate_left
       ·rintro w' ⟨s0, s1, s2, s3, s4, s5, s6, s7, s8, s9⟩
        go_simp
        with_reducible rfl
       rotate_left
       ·simp only [Act.put, nrm]
        rfl
       refine one_ (i := 2) (N := some 54) #[true, true, true, false, false, false, false, false, false, false, false, false, false, false, false, false, false, false] rfl rfl (one_of HT_.out (by kernel_rfl)) (by decide) (fun K hK => ?_)
       refine goes_ Try.func15 (by kernel_rfl) rfl #[.agg #[.int .i64 a0_0, .int .i64 a0_1], .agg #[.int .i64 x276000_2, .int .i64 x276001_2, .int .i64 x276002_2, .int .i64 x276003_2, .int .i64 x276004_2, .int .i64 x276005_2, .int .i64 x276006_2, .string x276007_2]] (by rfl) rfl rfl (by (try simp only [List.map_toArray, List.map_cons, List.map_nil]); first | done | rfl | (simp only [List.length_drop, List.length_take]; rfl)) ?_
       with_reducible refine (scramble_End.calls a0_0 a0_1 x276000_2 x276001_2 x276002_2 x276003_2 x276004_2 x276005_2 x276006_2 x276007_2 t312 _ A95.out).mono ?_
       rintro e w118 ⟨v313, rfl, ho0, hb⟩
       refine ⟨_, rfl, ?_⟩
       have n0_ := Aside0.mk (Kd.R_lower ho0 (below_size (hbw HB.out)))
       have n1_ := Aside0.mk (blkb BK265.out hb)
       have n2_ := Aside0.mk (blkb BK275.out hb)
       have n3_ := Aside0.mk (blkb BK284.out hb)
       have n4_ := Aside0.mk (below_step (hbw HB.out) hb)
       clear BK265
       clear BK275
       clear BK284
       clear HB
       have HO314 := n0_
       have BK265 := n1_
       have BK275 := n2_
       have BK284 := n3_
       have HB := n4_
       clear n0_ n1_ n2_ n3_ n4_
       (try clear hb)
       (try clear hb2)
       (try clear hk)
       (try clear hi)
       (try clear ho0)
       obtain ⟨Ao119, co119, eo119⟩ := Kd.R_slice HO314.out
       (first | subst eo119 | (injection eo119 with f1_ f2_ f3_; have f4_ := f1_.symm; have f5_ := f3_.symm; clear f1_ f2_ f3_; subst f4_; subst f5_))
       refine hK.out _ _ ⟨(blk_cell BK265.out 0).trans rfl, (blk_cell BK265.out 1).trans rfl, (blk_cell BK275.out 0).trans rfl, (blk_cell BK275.out 1).trans rfl, (blk_cell BK275.out 2).trans rfl, (blk_cell BK275.out 3).trans rfl, (blk_cell BK275.out 4).trans rfl, (blk_cell BK275.out 5).trans rfl, (blk_cell BK275.out 6).trans rfl, (blk_cell BK275.out 7).trans rfl⟩ (fun hHeld => ?_)
       clear hK K
       refine norm_ (a' := ?_) ?_ ?_
       rotate_left
       ·show Act.put _ (some 54) _ = _
        simp only [Act.put, nrm]
        rfl
       refine pstep 3 (some 55) #[true, true, true, true, false, false, false, false, false, false, false, false, false, false, false, false, false, false] HT_.out ?_
       refine pstep 4 (some 56) #[true, true, true, true, true, false, false, false, false, false, false, false, false, false, false, false, false, false] HT_.out ?_
       refine pstep 5 (some 57) #[true, true, true, true, true, true, false, false, false, false, false, false, false, false, false, false, false, false] HT_.out ?_
       refine pure_ (i := 6) (N := some 58) (v := undef) (a' := ?_) #[true, true, true, true, true, true, true, false, false, false, false, false, false, false, false, false, false, false] rfl rfl (any_of HT_.out (by kernel_rfl)) (fun _ _ _ h => h) (Or.inr ⟨by rfl, rfl⟩) ?_ ?_
       rotate_left
       ·simp only [Act.put, nrm]
        rfl
       refine pure_ (i := 7) (N := some 59) (v := undef) (a' := ?_) #[true, true, true, true, true, true, true, true, false, false, false, false, false, false, false, false, false, false] rfl rfl (any_of HT_.out (by kernel_rfl)) (fun _ _ _ h => h) (Or.inr ⟨by rfl, rfl⟩) ?_ ?_
       rotate_left
       ·simp only [Act.put, nrm]
        rfl
       refine pure_ (i := 8) (N := some 60) (v := undef) (a' := ?_) #[true, true, true, true, true, true, true, true, true, false, false, false, false, false, false, false, false, false] rfl rfl (any_of HT_.out (by kernel_rfl)) (fun _ _ _ h => h) (Or.inr ⟨by rfl, rfl⟩) ?_ ?_
       rotate_left
       ·simp only [Act.put, nrm]
        rfl
       refine pure_ (i := 9) (N := some 61) (v := undef) (a' := ?_) #[true, true, true, true, true, true, true, true, true, true, false, false, false, false, false, false, false, false] rfl rfl (any_of HT_.out (by kernel_rfl)) (fun _ _ _ h => h) (Or.inr ⟨by rfl, rfl⟩) ?_ ?_
       rotate_left
       ·simp only [Act.put, nrm]
        rfl
       refine pure_ (i := 10) (N := some 62) (v := undef) (a' := ?_) #[true, true, true, true, true, true, true, true, true, true, true, false, false, false, false, false, false, false] rfl rfl (any_of HT_.out (by kernel_rfl)) (fun _ _ _ h => h) (Or.inr ⟨by rfl, rfl⟩) ?_ ?_
       rotate_left
       ·simp only [Act.put, nrm]
        rfl
       refine pure_ (i := 11) (N := some 63) (v := undef) (a' := ?_) #[true, true, true, true, true, true, true, true, true, true, true, true, false, false, false, false, false, false] rfl rfl (any_of HT_.out (by kernel_rfl)) (fun _ _ _ h => h) (Or.inr ⟨by rfl, rfl⟩) ?_ ?_
       rotate_left
       ·simp only [Act.put, nrm]
        rfl
       refine pure_ (i := 12) (N := some 64) (v := undef) (a' := ?_) #[true, true, true, true, true, true, true, true, true, true, true, true, true, false, false, false, false, false] rfl rfl (any_of HT_.out (by kernel_rfl)) (fun _ _ _ h => h) (Or.inr ⟨by rfl, rfl⟩) ?_ ?_
       rotate_left
       ·simp only [Act.put, nrm]
        rfl
       refine pstep 13 (some 65) #[true, true, true, true, true, true, true, true, true, true, true, true, true, true, false, false, false, false] HT_.out ?_
       refine pstep 14 (some 66) #[true, true, true, true, true, true, true, true, true, true, true, true, true, true, true, false, false, false] HT_.out ?_
       refine pure_ (i := 15) (N := some 67) (v := undef) (a' := ?_) #[true, true, true, true, true, true, true, true, true, true, true, true, true, true, true, true, false, false] rfl rfl (any_of HT_.out (by kernel_rfl)) (fun _ _ _ h => h) (Or.inr ⟨by rfl, rfl⟩) ?_ ?_
       rotate_left
       ·simp only [Act.put, nrm]
        rfl
       refine pstep 16 (some 68) #[true, true, true, true, true, true, true, true, true, true, true, true, true, true, true, true, true, false] HT_.out ?_
       refine pstep 17 (some 4) #[true, true, true, true, true, true, true, true, true, true, true, true, true, true, true, true, true, true] HT_.out ?_
       refine done_ (done_of HT_.out (by kernel_rfl)) ?_
       try go_wp2
       go_ret
       exact ⟨by first | rfl | (simp [errW_none, errW_some] <;> rfl) | (simp [*, errW_none, errW_some] <;> rfl), by repeat (first | (with_reducible first | exact HB.out | apply below_alloc | apply pw_below_drewN | apply below_drew1 | refine below_set ?_ GE265.out | refine below_set ?_ GE275.out | refine below_set ?_ GE284.out) | exact HB.out)⟩

/-- THE ONE PURE STATEMENT of signalbenchlaw20_ScrambleDecodes: yours. -/
def signalbenchlaw20_ScrambleDecodes.Pure : Prop := ∀ (a0_0 : Int) (a0_1 : Int) (l1 : List (S27)), (Lit.int .i64 a0_0).wf = true → (Lit.int .i64 a0_1).wf = true → l1.length ≤ maxLen → l1.length * 64 ≤ 140737488351232 → (∀ x ∈ l1, (Lit.int .i64 x.f0).wf = true ∧ (Lit.int .i64 x.f1).wf = true ∧ (Lit.int .i64 x.f2).wf = true ∧ (Lit.int .i64 x.f3).wf = true ∧ (Lit.int .i64 x.f4).wf = true ∧ x.f5.size ≤ 140737488351232 ∧ (Lit.int .i64 x.f6).wf = true) → ∃ k, signalbenchlaw20_ScrambleDecodes.f k a0_0 a0_1 l1 = some true
theorem signalbenchlaw20_ScrambleDecodes.walk (P : signalbenchlaw20_ScrambleDecodes.Pure) (a0_0 : Int) (a0_1 : Int) (A1 : Option Addr) (c1 : Nat) (l1 : List (S27)) (w : World) (hr1 : Kd.C k27 w A1 l1.length l1) (hc1 : l1.length ≤ c1) (w0_ : (Lit.int .i64 a0_0).wf = true) (w1_ : (Lit.int .i64 a0_1).wf = true) (w2_ : l1.length ≤ maxLen) (w3_ : l1.length * 64 ≤ 140737488351232) (w4_ : (∀ x ∈ l1, (Lit.int .i64 x.f0).wf = true ∧ (Lit.int .i64 x.f1).wf = true ∧ (Lit.int .i64 x.f2).wf = true ∧ (Lit.int .i64 x.f3).wf = true ∧ (Lit.int .i64 x.f4).wf = true ∧ x.f5.size ≤ 140737488351232 ∧ (Lit.int .i64 x.f6).wf = true)) :
  Calls Try.prog 4 #[.agg #[.int .i64 a0_0, .int .i64 a0_1], .slice A1 l1.length c1] w fun e w' => e = .returned (.bool true) ∧ Below w.heap.size w w' := by
 obtain ⟨k, h⟩ := P a0_0 a0_1 l1 w0_ w1_ w2_ w3_ w4_
 refine (signalbenchlaw20_ScrambleDecodes.calls k a0_0 a0_1 A1 c1 l1 true w hr1 hc1 h).mono ?_
 rintro e w' ⟨rfl, hd⟩
 exact ⟨rfl, hd⟩

end Go.Proofs.Ytgcifmaefoeobaa.PScrambleDecodes
