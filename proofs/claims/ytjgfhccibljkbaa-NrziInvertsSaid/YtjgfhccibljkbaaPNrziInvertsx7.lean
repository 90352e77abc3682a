-- Written by a program of this session (wip/tools/pr.py), which calls the kit's print with changes of its own.
import Derived.Test.YtjgfhccibljkbaaPNrziInvertsx0
import Derived.Test.YtjgfhccibljkbaaPNrziInvertsx1
import Derived.Test.YtjgfhccibljkbaaPNrziInvertsx2
import Derived.Test.YtjgfhccibljkbaaPNrziInvertsx4
import Derived.Test.YtjgfhccibljkbaaPNrziInvertsx6
namespace Go.Proofs.Ytjgfhccibljkbaa.PNrziInverts
open Go.RowKit Go.Proofs.YtjgfhccibljkbaaW.PrintWords Go.Proofs.YtjgfhccibljkbaaW.PrintLast Go.Proofs.YtjgfhccibljkbaaW.PrintMore
attribute [local go_sem] max2_int min2_int max_two min_two max_three min_three max_four min_four   -- for this text's walks alone
set_option linter.unusedVariables false
set_option linter.unusedSimpArgs false

attribute [local go_sem high] eqA33
/-! ### signalbenchlaw16_NrziInverts: function 5 -/
mutual
def signalbenchlaw16_NrziInverts.j0 : Nat → List (S33) → Option (Bool)
 | 0, _ => none
 | k + 1, x0 => (nrzi_Decode.f k false x0).bind fun t219 => ((nrzi_Decode.f k true x0).bind fun t222 => ((signalbenchlaw16_turned.f k x0).bind fun t225 => ((nrzi_Decode.f k false t225).bind fun t228 => ((signalbenchlaw16_turned.f k t219).bind fun t231 => ((signalbenchref07_Same.f k t231 t222).bind fun t234 => (if t234 = true then (signalbenchlaw16_NrziInverts.j1 k t219 t228 ((t219.length : Int) != (t228.length : Int))) else (signalbenchlaw16_NrziInverts.j1 k t219 t228 true)))))))
def signalbenchlaw16_NrziInverts.j1 : Nat → List (S33) → List (S33) → Bool → Option (Bool)
 | 0, _, _, _ => none
 | k + 1, x3, x5, x32 => if x32 = true then (some false) else (signalbenchlaw16_NrziInverts.j2 k x3 x5)
def signalbenchlaw16_NrziInverts.j2 : Nat → List (S33) → List (S33) → Option (Bool)
 | 0, _, _ => none
 | k + 1, x3, x5 => signalbenchlaw16_NrziInverts.l0 k x3 x5 1
def signalbenchlaw16_NrziInverts.l0 : Nat → List (S33) → List (S33) → Int → Option (Bool)
 | 0, _, _, _ => none
 | k + 1, x3, x5, x6 => if x6 < (x3.length : Int) then (if 0 ≤ x6 then (if x6 < (x5.length : Int) then (if (!(((rd_T33 x3 x6).f0) == ((rd_T33 x5 x6).f0)) || (!(((rd_T33 x3 x6).f1) == ((rd_T33 x5 x6).f1)) || (!(((rd_T33 x3 x6).f2) == ((rd_T33 x5 x6).f2)) || (!(((rd_T33 x3 x6).f3) == ((rd_T33 x5 x6).f3)) || (!(((rd_T33 x3 x6).f4) == ((rd_T33 x5 x6).f4)) || (!((((rd_T33 x3 x6).f5).toList) == (((rd_T33 x5 x6).f5).toList)) || (!(((rd_T33 x3 x6).f6) == ((rd_T33 x5 x6).f6))))))))) = true then (some false) else (signalbenchlaw16_NrziInverts.l0 k x3 x5 (wrap64 (x6 + 1)))) else (none)) else (none)) else (if (x3.length : Int) = 0 then ((signalbenchlaw16_awake.f k).bind fun t237 => (some t237)) else (if 0 < (x3.length : Int) then (if 0 < (x5.length : Int) then (if ((rd_T33 x3 0).f3) = (wrap64 (1 - ((rd_T33 x5 0).f3))) then ((signalbenchlaw16_awake.f k).bind fun t240 => (some t240)) else (some false)) else (none)) else (none)))
end
def signalbenchlaw16_NrziInverts.f (k : Nat) (l0 : List (S33)) : Option (Bool) := (signalbenchlaw16_small.f k l0).bind fun t217 => (if t217 = true then (signalbenchlaw16_NrziInverts.j0 k l0) else ((signalbenchlaw16_awake.f k).bind fun t218 => (some t218)))
theorem signalbenchlaw16_NrziInverts.mono_l : ∀ k, (∀ y0, LeO (signalbenchlaw16_NrziInverts.j0 k y0) (signalbenchlaw16_NrziInverts.j0 (k + 1) y0)) ∧ (∀ y0 y1 y2, LeO (signalbenchlaw16_NrziInverts.j1 k y0 y1 y2) (signalbenchlaw16_NrziInverts.j1 (k + 1) y0 y1 y2)) ∧ (∀ y0 y1, LeO (signalbenchlaw16_NrziInverts.j2 k y0 y1) (signalbenchlaw16_NrziInverts.j2 (k + 1) y0 y1)) ∧ (∀ y0 y1 y2, LeO (signalbenchlaw16_NrziInverts.l0 k y0 y1 y2) (signalbenchlaw16_NrziInverts.l0 (k + 1) y0 y1 y2))
 | 0 => ⟨fun _ r h => by simp [signalbenchlaw16_NrziInverts.j0] at h, fun _ _ _ r h => by simp [signalbenchlaw16_NrziInverts.j1] at h, fun _ _ r h => by simp [signalbenchlaw16_NrziInverts.j2] at h, fun _ _ _ r h => by simp [signalbenchlaw16_NrziInverts.l0] at h⟩
 | k + 1 => by
  obtain ⟨ih0, ih1, ih2, ih3⟩ := signalbenchlaw16_NrziInverts.mono_l k
  refine ⟨?_, ?_, ?_, ?_⟩
  ·intro y0
   unfold signalbenchlaw16_NrziInverts.j0
   repeat' first
   | (with_reducible exact ih0 _)
   | (with_reducible exact ih1 _ _ _)
   | (with_reducible exact ih2 _ _)
   | (with_reducible exact ih3 _ _ _)
   | (with_reducible exact nrzi_Decode.mono _ _ _)
   | (with_reducible exact signalbenchlaw16_awake.mono _)
   | (with_reducible exact signalbenchlaw16_small.mono _ _)
   | (with_reducible exact signalbenchlaw16_turned.mono _ _)
   | (with_reducible exact signalbenchref07_Same.mono _ _ _)
   | (with_reducible exact LeO.refl _)
   | (with_reducible exact LeO.none _)
   | (with_reducible refine LeO.ite ?_ ?_)
   | (with_reducible refine LeO.bind ?_ (fun _ => ?_))
   | exact ih0 _
   | exact ih1 _ _ _
   | exact ih2 _ _
   | exact ih3 _ _ _
   | exact nrzi_Decode.mono _ _ _
   | exact signalbenchlaw16_awake.mono _
   | exact signalbenchlaw16_small.mono _ _
   | exact signalbenchlaw16_turned.mono _ _
   | exact signalbenchref07_Same.mono _ _ _
   | exact LeO.none _
   | refine LeO.ite ?_ ?_
   | refine LeO.bind ?_ (fun _ => ?_)
  ·intro y0 y1 y2
   unfold signalbenchlaw16_NrziInverts.j1
   repeat' first
   | (with_reducible exact ih0 _)
   | (with_reducible exact ih1 _ _ _)
   | (with_reducible exact ih2 _ _)
   | (with_reducible exact ih3 _ _ _)
   | (with_reducible exact nrzi_Decode.mono _ _ _)
   | (with_reducible exact signalbenchlaw16_awake.mono _)
   | (with_reducible exact signalbenchlaw16_small.mono _ _)
   | (with_reducible exact signalbenchlaw16_turned.mono _ _)
   | (with_reducible exact signalbenchref07_Same.mono _ _ _)
   | (with_reducible exact LeO.refl _)
   | (with_reducible exact LeO.none _)
   | (with_reducible refine LeO.ite ?_ ?_)
   | (with_reducible refine LeO.bind ?_ (fun _ => ?_))
   | exact ih0 _
   | exact ih1 _ _ _
   | exact ih2 _ _
   | exact ih3 _ _ _
   | exact nrzi_Decode.mono _ _ _
   | exact signalbenchlaw16_awake.mono _
   | exact signalbenchlaw16_small.mono _ _
   | exact signalbenchlaw16_turned.mono _ _
   | exact signalbenchref07_Same.mono _ _ _
   | exact LeO.none _
   | refine LeO.ite ?_ ?_
   | refine LeO.bind ?_ (fun _ => ?_)
  ·intro y0 y1
   unfold signalbenchlaw16_NrziInverts.j2
   repeat' first
   | (with_reducible exact ih0 _)
   | (with_reducible exact ih1 _ _ _)
   | (with_reducible exact ih2 _ _)
   | (with_reducible exact ih3 _ _ _)
   | (with_reducible exact nrzi_Decode.mono _ _ _)
   | (with_reducible exact signalbenchlaw16_awake.mono _)
   | (with_reducible exact signalbenchlaw16_small.mono _ _)
   | (with_reducible exact signalbenchlaw16_turned.mono _ _)
   | (with_reducible exact signalbenchref07_Same.mono _ _ _)
   | (with_reducible exact LeO.refl _)
   | (with_reducible exact LeO.none _)
   | (with_reducible refine LeO.ite ?_ ?_)
   | (with_reducible refine LeO.bind ?_ (fun _ => ?_))
   | exact ih0 _
   | exact ih1 _ _ _
   | exact ih2 _ _
   | exact ih3 _ _ _
   | exact nrzi_Decode.mono _ _ _
   | exact signalbenchlaw16_awake.mono _
   | exact signalbenchlaw16_small.mono _ _
   | exact signalbenchlaw16_turned.mono _ _
   | exact signalbenchref07_Same.mono _ _ _
   | exact LeO.none _
   | refine LeO.ite ?_ ?_
   | refine LeO.bind ?_ (fun _ => ?_)
  ·intro y0 y1 y2
   unfold signalbenchlaw16_NrziInverts.l0
   repeat' first
   | (with_reducible exact ih0 _)
   | (with_reducible exact ih1 _ _ _)
   | (with_reducible exact ih2 _ _)
   | (with_reducible exact ih3 _ _ _)
   | (with_reducible exact nrzi_Decode.mono _ _ _)
   | (with_reducible exact signalbenchlaw16_awake.mono _)
   | (with_reducible exact signalbenchlaw16_small.mono _ _)
   | (with_reducible exact signalbenchlaw16_turned.mono _ _)
   | (with_reducible exact signalbenchref07_Same.mono _ _ _)
   | (with_reducible exact LeO.refl _)
   | (with_reducible exact LeO.none _)
   | (with_reducible refine LeO.ite ?_ ?_)
   | (with_reducible refine LeO.bind ?_ (fun _ => ?_))
   | exact ih0 _
   | exact ih1 _ _ _
   | exact ih2 _ _
   | exact ih3 _ _ _
   | exact nrzi_Decode.mono _ _ _
   | exact signalbenchlaw16_awake.mono _
   | exact signalbenchlaw16_small.mono _ _
   | exact signalbenchlaw16_turned.mono _ _
   | exact signalbenchref07_Same.mono _ _ _
   | exact LeO.none _
   | refine LeO.ite ?_ ?_
   | refine LeO.bind ?_ (fun _ => ?_)
theorem signalbenchlaw16_NrziInverts.mono : ∀ a0 k, LeO (signalbenchlaw16_NrziInverts.f k a0) (signalbenchlaw16_NrziInverts.f (k + 1) a0) := by
 intro a0 k
 obtain ⟨ih0, ih1, ih2, ih3⟩ := signalbenchlaw16_NrziInverts.mono_l k
 unfold signalbenchlaw16_NrziInverts.f
 repeat' first
   | (with_reducible exact ih0 _)
   | (with_reducible exact ih1 _ _ _)
   | (with_reducible exact ih2 _ _)
   | (with_reducible exact ih3 _ _ _)
   | (with_reducible exact nrzi_Decode.mono _ _ _)
   | (with_reducible exact signalbenchlaw16_awake.mono _)
   | (with_reducible exact signalbenchlaw16_small.mono _ _)
   | (with_reducible exact signalbenchlaw16_turned.mono _ _)
   | (with_reducible exact signalbenchref07_Same.mono _ _ _)
   | (with_reducible exact LeO.refl _)
   | (with_reducible exact LeO.none _)
   | (with_reducible refine LeO.ite ?_ ?_)
   | (with_reducible refine LeO.bind ?_ (fun _ => ?_))
   | exact ih0 _
   | exact ih1 _ _ _
   | exact ih2 _ _
   | exact ih3 _ _ _
   | exact nrzi_Decode.mono _ _ _
   | exact signalbenchlaw16_awake.mono _
   | exact signalbenchlaw16_small.mono _ _
   | exact signalbenchlaw16_turned.mono _ _
   | exact signalbenchref07_Same.mono _ _ _
   | exact LeO.none _
   | refine LeO.ite ?_ ?_
   | refine LeO.bind ?_ (fun _ => ?_)
def signalbenchlaw16_NrziInverts.T11 : Bool × List (List Nat × List Nat) := (true, [([], []), ([], []), ([0, 1], [0, 1]), ([2], [2]), ([], []), ([], []), ([4, 5], [4, 5]), ([6], [6]), ([3, 7], [3, 7])])
def signalbenchlaw16_NrziInverts.B11 : List Nat := [0, 0, 3, 7, 0, 0, 48, 112, 255]
theorem signalbenchlaw16_NrziInverts.tab11 : rtab .any (opsOf Try.f5 11) = signalbenchlaw16_NrziInverts.T11 := by kernel_rfl
theorem signalbenchlaw16_NrziInverts.bits11 : waitsOk signalbenchlaw16_NrziInverts.T11.2 signalbenchlaw16_NrziInverts.B11 = true := by kernel_rfl
def signalbenchlaw16_NrziInverts.T13 : Bool × List (List Nat × List Nat) := (true, [([], []), ([0], [0]), ([1], [1]), ([2], [2]), ([3], [3]), ([4, 3], [3, 4]), ([5, 3], [3, 5]), ([6, 3], [3, 6]), ([3], [3]), ([8, 3], [3, 8]), ([9, 3], [3, 9]), ([10, 3], [3, 10]), ([11, 3], [3, 11]), ([7, 12, 3], [3, 7, 12]), ([3, 13], [3, 13]), ([14, 3], [14]), ([15, 15], [15]), ([15, 16], [15, 16]), ([17, 16, 0, 1, 2, 3, 4, 5, 6, 7, 8, 9, 10, 11, 12, 13, 14, 15, 16, 17], [17])])
def signalbenchlaw16_NrziInverts.B13 : List Nat := [0, 1, 3, 7, 15, 31, 63, 127, 15, 271, 783, 1807, 3855, 8191, 16383, 32767, 65535, 131071, 262143]
theorem signalbenchlaw16_NrziInverts.tab13 : rtab .any (opsOf Try.f5 13) = signalbenchlaw16_NrziInverts.T13 := by kernel_rfl
theorem signalbenchlaw16_NrziInverts.bits13 : waitsOk signalbenchlaw16_NrziInverts.T13.2 signalbenchlaw16_NrziInverts.B13 = true := by kernel_rfl
set_option maxHeartbeats 8000000 in
set_option maxRecDepth 100000 in
theorem signalbenchlaw16_NrziInverts.calls (k : Nat) (A0 : Option Addr) (c0 : Nat) (l0 : List (S33)) (r : Bool) (w : World) (hr0 : Kd.C k33 w A0 l0.length l0) (hc0 : l0.length ≤ c0) (h : signalbenchlaw16_NrziInverts.f k l0 = some r) :
  Calls Try.prog 5 #[.slice A0 l0.length c0] w fun e w' => e = .returned (.bool r) ∧ Below w.heap.size w w' := by
 have hu23 := Try.underlying23
 have hu33 := Try.underlying33
 have HR0 := Aside0.mk hr0
 have HC0 := Aside0.mk hc0
 clear hr0 hc0
 have HB := Aside0.mk (Below.refl w.heap.size w)
 have H : ((signalbenchlaw16_small.f k l0).bind fun t217 => (if t217 = true then (signalbenchlaw16_NrziInverts.j0 k l0) else ((signalbenchlaw16_awake.f k).bind fun t218 => (some t218)))) = some r := h
 clear h
 replace H := Option.bind_eq_some_iff.mp H
 obtain ⟨t217, A20, H⟩ := H
 replace H : (if t217 = true then (signalbenchlaw16_NrziInverts.j0 k l0) else ((signalbenchlaw16_awake.f k).bind fun t218 => (some t218))) = some r := H
 have A2 := Aside0.mk A20
 clear A20
 have HC3 := Aside0.mk H
 clear H
 go_enter Try.func5, Try.ntmps5
 go_upto_if 9 with (first | ((with_reducible refine gate_callee (f := 8) rfl ?_); refine goesL_ (some 8) rfl rfl Try.func8 (by kernel_rfl) rfl #[.slice A0 l0.length c0] rfl (by (try simp only [List.map_toArray, List.map_cons, List.map_nil]); first | done | rfl | (simp only [List.length_drop, List.length_take]; rfl)) ?_; (with_reducible refine (signalbenchlaw16_small.calls k _ _ l0 t217 _ ?side1 ?side2 A2.out).mono ?_); (case side1 => repeat (first | exact HR0.out | (with_reducible refine Kd.C_alloc ?_ _) | (with_reducible refine Kd.C_drewN ?_ _) | (with_reducible refine Kd.C_drew ?_))); (case side2 => exact HC0.out); rintro e w' ⟨rfl, ⟨nd, rfl⟩⟩; refine ⟨_, rfl, ?_⟩))
 (try simp only [Act.put, List.setIfInBounds_toArray, List.set_cons_zero, List.set_cons_succ])
 go_cut [] (fun wc => ∃ (kq : Nat), Aside0 (signalbenchlaw16_NrziInverts.j0 kq l0 = some r) ∧ Aside0 (kq ≤ k) ∧ Aside0 (Below w.heap.size w wc))
 case first =>
  have H := HC3.out
  clear HC3
  by_cases c4 : t217 = true
  ·subst c4
   have H1 : (signalbenchlaw16_NrziInverts.j0 k l0) = some r := by rw [if_pos rfl] at H; exact H
   clear H
   have H := H1
   clear H1
   have H' := Aside0.mk H
   clear H
   go_wp2
   go_meet
   case rel => exact ⟨_, H', ⟨by first | omega | exact Nat.le_refl _⟩, ⟨by repeat (first | (with_reducible first | exact HB.out | apply below_alloc | apply pw_below_drewN | apply below_drew1) | exact HB.out)⟩⟩
  ·replace c4 := Bool.eq_false_iff.mpr c4
   subst c4
   have H1 : ((signalbenchlaw16_awake.f k).bind fun t218 => (some t218)) = some r := by rw [if_neg (show ¬ (false = true) by decide)] at H; exact H
   clear H
   have H := H1
   clear H1
   replace H := Option.bind_eq_some_iff.mp H
   obtain ⟨t218, A50, H⟩ := H
   replace H : (some t218) = some r := H
   have A5 := Aside0.mk A50
   clear A50
   obtain rfl := Option.some.inj H
   go_wp2_with (first | ((with_reducible refine gate_callee (f := 9) rfl ?_); refine goesL_ (some 10) rfl rfl Try.func9 (by kernel_rfl) rfl #[] rfl (by (try simp only [List.map_toArray, List.map_cons, List.map_nil]); first | done | rfl | (simp only [List.length_drop, List.length_take]; rfl)) ?_; (with_reducible refine (signalbenchlaw16_awake.calls k  t218 _ A5.out).mono ?_); rintro e w6 ⟨rfl, hb⟩; refine ⟨_, rfl, ?_⟩; have n0_ := Aside0.mk (below_step (hbw HB.out) hb); clear HB; have HB := n0_; clear n0_; (try clear hb); (try clear hb2); (try clear hk); (try clear hi)))
   go_ret
   exact ⟨by first | rfl | (simp [errW_none, errW_some] <;> rfl) | (simp [*, errW_none, errW_some] <;> rfl), by repeat (first | (with_reducible first | exact HB.out | apply below_alloc | apply pw_below_drewN | apply below_drew1) | exact HB.out)⟩
 case rest =>
  clear HC3
  try clear p2
  try clear c4
  try clear c5
  obtain ⟨kq, HA, HJ2, HB⟩ := hcut
  cases kq with
  | zero => exact absurd HA.out (by simp [signalbenchlaw16_NrziInverts.j0])
  | succ kj2 =>
   have H := HA.out
   clear HA
   simp only [signalbenchlaw16_NrziInverts.j0] at H
   replace H := Option.bind_eq_some_iff.mp H
   obtain ⟨t219, A70, H⟩ := H
   replace H : ((nrzi_Decode.f kj2 true l0).bind fun t222 => ((signalbenchlaw16_turned.f kj2 l0).bind fun t225 => ((nrzi_Decode.f kj2 false t225).bind fun t228 => ((signalbenchlaw16_turned.f kj2 t219).bind fun t231 => ((signalbenchref07_Same.f kj2 t231 t222).bind fun t234 => (if t234 = true then (signalbenchlaw16_NrziInverts.j1 kj2 t219 t228 ((t219.length : Int) != (t228.length : Int))) else (signalbenchlaw16_NrziInverts.j1 kj2 t219 t228 true))))))) = some r := H
   have A7 := Aside0.mk A70
   clear A70
   replace H := Option.bind_eq_some_iff.mp H
   obtain ⟨t222, A80, H⟩ := H
   replace H : ((signalbenchlaw16_turned.f kj2 l0).bind fun t225 => ((nrzi_Decode.f kj2 false t225).bind fun t228 => ((signalbenchlaw16_turned.f kj2 t219).bind fun t231 => ((signalbenchref07_Same.f kj2 t231 t222).bind fun t234 => (if t234 = true then (signalbenchlaw16_NrziInverts.j1 kj2 t219 t228 ((t219.length : Int) != (t228.length : Int))) else (signalbenchlaw16_NrziInverts.j1 kj2 t219 t228 true)))))) = some r := H
   have A8 := Aside0.mk A80
   clear A80
   replace H := Option.bind_eq_some_iff.mp H
   obtain ⟨t225, A90, H⟩ := H
   replace H : ((nrzi_Decode.f kj2 false t225).bind fun t228 => ((signalbenchlaw16_turned.f kj2 t219).bind fun t231 => ((signalbenchref07_Same.f kj2 t231 t222).bind fun t234 => (if t234 = true then (signalbenchlaw16_NrziInverts.j1 kj2 t219 t228 ((t219.length : Int) != (t228.length : Int))) else (signalbenchlaw16_NrziInverts.j1 kj2 t219 t228 true))))) = some r := H
   have A9 := Aside0.mk A90
   clear A90
   replace H := Option.bind_eq_some_iff.mp H
   obtain ⟨t228, A100, H⟩ := H
   replace H : ((signalbenchlaw16_turned.f kj2 t219).bind fun t231 => ((signalbenchref07_Same.f kj2 t231 t222).bind fun t234 => (if t234 = true then (signalbenchlaw16_NrziInverts.j1 kj2 t219 t228 ((t219.length : Int) != (t228.length : Int))) else (signalbenchlaw16_NrziInverts.j1 kj2 t219 t228 true)))) = some r := H
   have A10 := Aside0.mk A100
   clear A100
   have HC11 := Aside0.mk H
   clear H
   go_upto_region 6 with (first | ((with_reducible refine gate_callee (f := 17) rfl ?_); refine goesL_ (some 13) rfl rfl Try.func17 (by kernel_rfl) rfl #[.agg #[.bool false], .slice A0 l0.length c0] rfl (by (try simp only [List.map_toArray, List.map_cons, List.map_nil]); first | done | rfl | (simp only [List.length_drop, List.length_take]; rfl)) ?_; (with_reducible refine (nrzi_Decode.calls kj2 false _ _ l0 t219 _ ?side1 ?side2 A7.out).mono ?_); (case side1 => repeat (first | exact (Kd.C_below HR0.out HB.out) | (with_reducible refine Kd.C_alloc ?_ _) | (with_reducible refine Kd.C_drewN ?_ _) | (with_reducible refine Kd.C_drew ?_))); (case side2 => exact HC0.out); rintro e w12 ⟨v220, rfl, ho0, hb⟩; refine ⟨_, rfl, ?_⟩; have n0_ := Aside0.mk (Kd.R_lower ho0 (below_size (hbw HB.out))); have n1_ := Aside0.mk (below_step (hbw HB.out) hb); clear HB; have HO221 := n0_; have HB := n1_; clear n0_ n1_; (try clear hb); (try clear hb2); (try clear hk); (try clear hi); (try clear ho0)) | ((with_reducible refine gate_callee (f := 17) rfl ?_); refine goesL_ (some 16) rfl rfl Try.func17 (by kernel_rfl) rfl #[.agg #[.bool true], .slice A0 l0.length c0] rfl (by (try simp only [List.map_toArray, List.map_cons, List.map_nil]); first | done | rfl | (simp only [List.length_drop, List.length_take]; rfl)) ?_; (with_reducible refine (nrzi_Decode.calls kj2 true _ _ l0 t222 _ ?side1 ?side2 A8.out).mono ?_); (case side1 => repeat (first | exact (Kd.C_below HR0.out HB.out) | (with_reducible refine Kd.C_alloc ?_ _) | (with_reducible refine Kd.C_drewN ?_ _) | (with_reducible refine Kd.C_drew ?_))); (case side2 => exact HC0.out); rintro e w13 ⟨v223, rfl, ho0, hb⟩; refine ⟨_, rfl, ?_⟩; have n0_ := Aside0.mk (Kd.R_elder' (rkw HO221.out) (Kd.R_base ho0) hb); have n1_ := Aside0.mk (Kd.R_lower (Kd.R_new' ho0 (Kd.R_lt (rkw HO221.out))) (below_size (hbw HB.out))); have n2_ := Aside0.mk (below_step (hbw HB.out) hb); clear HO221; clear HB; have HO221 := n0_; have HO224 := n1_; have HB := n2_; clear n0_ n1_ n2_; (try clear hb); (try clear hb2); (try clear hk); (try clear hi); (try clear ho0)) | ((with_reducible refine gate_callee (f := 22) rfl ?_); refine goesL_ (some 19) rfl rfl Try.func22 (by kernel_rfl) rfl #[.slice A0 l0.length c0] rfl (by (try simp only [List.map_toArray, List.map_cons, List.map_nil]); first | done | rfl | (simp only [List.length_drop, List.length_take]; rfl)) ?_; (with_reducible refine (signalbenchlaw16_turned.calls kj2 _ _ l0 t225 _ ?side1 ?side2 A9.out).mono ?_); (case side1 => repeat (first | exact (Kd.C_below HR0.out HB.out) | (with_reducible refine Kd.C_alloc ?_ _) | (with_reducible refine Kd.C_drewN ?_ _) | (with_reducible refine Kd.C_drew ?_))); (case side2 => exact HC0.out); rintro e w14 ⟨v226, rfl, ho0, hb⟩; refine ⟨_, rfl, ?_⟩; have n0_ := Aside0.mk (Kd.R_elder' (rkw HO221.out) (Kd.R_base ho0) hb); have n1_ := Aside0.mk (Kd.R_elder' (rkw HO224.out) (Kd.R_base ho0) hb); have n2_ := Aside0.mk (Kd.R_lower (Kd.R_new' (Kd.R_new' ho0 (Kd.R_lt (rkw HO221.out))) (Kd.R_lt (rkw HO224.out))) (below_size (hbw HB.out))); have n3_ := Aside0.mk (below_step (hbw HB.out) hb); clear HO221; clear HO224; clear HB; have HO221 := n0_; have HO224 := n1_; have HO227 := n2_; have HB := n3_; clear n0_ n1_ n2_ n3_; (try clear hb); (try clear hb2); (try clear hk); (try clear hi); (try clear ho0); obtain ⟨Ao15, co15, eo15⟩ := Kd.R_slice HO227.out; subst eo15) | ((with_reducible refine gate_callee (f := 17) rfl ?_); refine goesL_ (some 20) rfl rfl Try.func17 (by kernel_rfl) rfl #[.agg #[.bool false], .slice Ao15 t225.length co15] rfl (by (try simp only [List.map_toArray, List.map_cons, List.map_nil]); first | done | rfl | (simp only [List.length_drop, List.length_take]; rfl)) ?_; (with_reducible refine (nrzi_Decode.calls kj2 false _ _ t225 t228 _ ?side1 ?side2 A10.out).mono ?_); (case side1 => repeat (first | exact (Kd.R_reads' HO227.out).2.2 | (with_reducible refine Kd.C_alloc ?_ _) | (with_reducible refine Kd.C_drewN ?_ _) | (with_reducible refine Kd.C_drew ?_))); (case side2 => exact (Kd.R_reads' HO227.out).2.1); rintro e w16 ⟨v229, rfl, ho0, hb⟩; refine ⟨_, rfl, ?_⟩; have n0_ := Aside0.mk (Kd.R_elder' (rkw HO221.out) (Kd.R_base ho0) hb); have n1_ := Aside0.mk (Kd.R_elder' (rkw HO224.out) (Kd.R_base ho0) hb); have n2_ := Aside0.mk (Kd.R_elder' (rkw HO227.out) (Kd.R_base ho0) hb); have n3_ := Aside0.mk (Kd.R_lower (Kd.R_new' (Kd.R_new' (Kd.R_new' ho0 (Kd.R_lt (rkw HO221.out))) (Kd.R_lt (rkw HO224.out))) (Kd.R_lt (rkw HO227.out))) (below_size (hbw HB.out))); have n4_ := Aside0.mk (below_step (hbw HB.out) hb); clear HO221; clear HO224; clear HO227; clear HB; have HO221 := n0_; have HO224 := n1_; have HO227 := n2_; have HO230 := n3_; have HB := n4_; clear n0_ n1_ n2_ n3_ n4_; (try clear hb); (try clear hb2); (try clear hk); (try clear hi); (try clear ho0)))
   (try simp only [Act.put, List.setIfInBounds_toArray, List.set_cons_zero, List.set_cons_succ])
   go_cut [32] (fun v32 wc => ∃ (kq : Nat) (x32_10 : Bool), v32 = .bool x32_10 ∧ Aside0 (signalbenchlaw16_NrziInverts.j1 kq t219 t228 x32_10 = some r) ∧ Aside0 (kq ≤ kj2) ∧ Aside0 (Kd.R k33 33 wc w.heap.size (fun k_ => some k_ ≠ (v229 : Value).ownBlock) v220 t219) ∧ Aside0 (Kd.R k33 33 wc w.heap.size (fun k_ => some k_ ≠ (v220 : Value).ownBlock) v229 t228) ∧ Aside0 (Below w.heap.size w wc))
   case first =>
    have H := HC11.out
    clear HC11
    replace H := Option.bind_eq_some_iff.mp H
    obtain ⟨t231, A170, H⟩ := H
    replace H : ((signalbenchref07_Same.f kj2 t231 t222).bind fun t234 => (if t234 = true then (signalbenchlaw16_NrziInverts.j1 kj2 t219 t228 ((t219.length : Int) != (t228.length : Int))) else (signalbenchlaw16_NrziInverts.j1 kj2 t219 t228 true))) = some r := H
    have A17 := Aside0.mk A170
    clear A170
    replace H := Option.bind_eq_some_iff.mp H
    obtain ⟨t234, A180, H⟩ := H
    replace H : (if t234 = true then (signalbenchlaw16_NrziInverts.j1 kj2 t219 t228 ((t219.length : Int) != (t228.length : Int))) else (signalbenchlaw16_NrziInverts.j1 kj2 t219 t228 true)) = some r := H
    have A18 := Aside0.mk A180
    clear A180
    by_cases c19 : t234 = true
    ·subst c19
     have H1 : (signalbenchlaw16_NrziInverts.j1 kj2 t219 t228 ((t219.length : Int) != (t228.length : Int))) = some r := by rw [if_pos rfl] at H; exact H
     clear H
     have H := H1
     clear H1
     have H' := Aside0.mk H
     clear H
     obtain ⟨Ao20, co20, eo20⟩ := Kd.R_slice HO221.out
     subst eo20
     go_wp2_with (first | ((with_reducible refine gate_callee (f := 22) rfl ?_); refine goesL_ (some 22) rfl rfl Try.func22 (by kernel_rfl) rfl #[.slice Ao20 t219.length co20] rfl (by (try simp only [List.map_toArray, List.map_cons, List.map_nil]); first | done | rfl | (simp only [List.length_drop, List.length_take]; rfl)) ?_; (with_reducible refine (signalbenchlaw16_turned.calls kj2 _ _ t219 t231 _ ?side1 ?side2 A17.out).mono ?_); (case side1 => repeat (first | exact (Kd.R_reads' HO221.out).2.2 | (with_reducible refine Kd.C_alloc ?_ _) | (with_reducible refine Kd.C_drewN ?_ _) | (with_reducible refine Kd.C_drew ?_))); (case side2 => exact (Kd.R_reads' HO221.out).2.1); rintro e w21 ⟨v232, rfl, ho0, hb⟩; refine ⟨_, rfl, ?_⟩; have n0_ := Aside0.mk (Kd.R_elder' (rkw HO221.out) (Kd.R_base ho0) hb); have n1_ := Aside0.mk (Kd.R_elder' (rkw HO224.out) (Kd.R_base ho0) hb); have n2_ := Aside0.mk (Kd.R_elder' (rkw HO227.out) (Kd.R_base ho0) hb); have n3_ := Aside0.mk (Kd.R_elder' (rkw HO230.out) (Kd.R_base ho0) hb); have n4_ := Aside0.mk (Kd.R_lower (Kd.R_new' (Kd.R_new' (Kd.R_new' (Kd.R_new' ho0 (Kd.R_lt (rkw HO221.out))) (Kd.R_lt (rkw HO224.out))) (Kd.R_lt (rkw HO227.out))) (Kd.R_lt (rkw HO230.out))) (below_size (hbw HB.out))); have n5_ := Aside0.mk (below_step (hbw HB.out) hb); clear HO221; clear HO224; clear HO227; clear HO230; clear HB; have HO221 := n0_; have HO224 := n1_; have HO227 := n2_; have HO230 := n3_; have HO233 := n4_; have HB := n5_; clear n0_ n1_ n2_ n3_ n4_ n5_; (try clear hb); (try clear hb2); (try clear hk); (try clear hi); (try clear ho0); obtain ⟨Ao22, co22, eo22⟩ := Kd.R_slice HO233.out; subst eo22; obtain ⟨Ao23, co23, eo23⟩ := Kd.R_slice HO224.out; subst eo23) | ((with_reducible refine gate_callee (f := 14) rfl ?_); refine goesL_ (some 24) rfl rfl Try.func14 (by kernel_rfl) rfl #[.slice Ao22 t231.length co22, .slice Ao23 t222.length co23] rfl (by (try simp only [List.map_toArray, List.map_cons, List.map_nil]); first | done | rfl | (simp only [List.length_drop, List.length_take]; rfl)) ?_; (with_reducible refine (signalbenchref07_Same.calls kj2 _ _ t231 _ _ t222 true _ ?side1 ?side2 ?side3 ?side4 A18.out).mono ?_); (case side1 => repeat (first | exact (Kd.R_reads' HO233.out).2.2 | (with_reducible refine Kd.C_alloc ?_ _) | (with_reducible refine Kd.C_drewN ?_ _) | (with_reducible refine Kd.C_drew ?_))); (case side2 => exact (Kd.R_reads' HO233.out).2.1); (case side3 => repeat (first | exact (Kd.R_reads' HO224.out).2.2 | (with_reducible refine Kd.C_alloc ?_ _) | (with_reducible refine Kd.C_drewN ?_ _) | (with_reducible refine Kd.C_drew ?_))); (case side4 => exact (Kd.R_reads' HO224.out).2.1); rintro e w' ⟨rfl, ⟨nd, rfl⟩⟩; refine ⟨_, rfl, ?_⟩; obtain ⟨Ao24, co24, eo24⟩ := Kd.R_slice HO230.out; subst eo24))
     go_meet
     case rel => exact ⟨_, (((t219.length : Int) != (t228.length : Int))), (by first | rfl | (simp; done) | (simp [*]; done)), H', ⟨by have := HJ2.out; first | omega | exact Nat.le_refl _⟩, ⟨by (with_reducible repeat (first | apply Kd.R_alloc | apply Kd.R_drewN | apply Kd.R_drew)); exact Kd.R_mono HO221.out (fun _ hk => hk.1.2)⟩, ⟨by (with_reducible repeat (first | apply Kd.R_alloc | apply Kd.R_drewN | apply Kd.R_drew)); exact Kd.R_mono HO230.out (fun _ hk => hk.1.1.1.2)⟩, ⟨by repeat (first | (with_reducible first | exact HB.out | apply below_alloc | apply pw_below_drewN | apply below_drew1) | exact HB.out)⟩⟩
    ·replace c19 := Bool.eq_false_iff.mpr c19
     subst c19
     have H1 : (signalbenchlaw16_NrziInverts.j1 kj2 t219 t228 true) = some r := by rw [if_neg (show ¬ (false = true) by decide)] at H; exact H
     clear H
     have H := H1
     clear H1
     have H' := Aside0.mk H
     clear H
     obtain ⟨Ao25, co25, eo25⟩ := Kd.R_slice HO221.out
     subst eo25
     go_wp2_with (first | ((with_reducible refine gate_callee (f := 22) rfl ?_); refine goesL_ (some 22) rfl rfl Try.func22 (by kernel_rfl) rfl #[.slice Ao25 t219.length co25] rfl (by (try simp only [List.map_toArray, List.map_cons, List.map_nil]); first | done | rfl | (simp only [List.length_drop, List.length_take]; rfl)) ?_; (with_reducible refine (signalbenchlaw16_turned.calls kj2 _ _ t219 t231 _ ?side1 ?side2 A17.out).mono ?_); (case side1 => repeat (first | exact (Kd.R_reads' HO221.out).2.2 | (with_reducible refine Kd.C_alloc ?_ _) | (with_reducible refine Kd.C_drewN ?_ _) | (with_reducible refine Kd.C_drew ?_))); (case side2 => exact (Kd.R_reads' HO221.out).2.1); rintro e w26 ⟨v232, rfl, ho0, hb⟩; refine ⟨_, rfl, ?_⟩; have n0_ := Aside0.mk (Kd.R_elder' (rkw HO221.out) (Kd.R_base ho0) hb); have n1_ := Aside0.mk (Kd.R_elder' (rkw HO224.out) (Kd.R_base ho0) hb); have n2_ := Aside0.mk (Kd.R_elder' (rkw HO227.out) (Kd.R_base ho0) hb); have n3_ := Aside0.mk (Kd.R_elder' (rkw HO230.out) (Kd.R_base ho0) hb); have n4_ := Aside0.mk (Kd.R_lower (Kd.R_new' (Kd.R_new' (Kd.R_new' (Kd.R_new' ho0 (Kd.R_lt (rkw HO221.out))) (Kd.R_lt (rkw HO224.out))) (Kd.R_lt (rkw HO227.out))) (Kd.R_lt (rkw HO230.out))) (below_size (hbw HB.out))); have n5_ := Aside0.mk (below_step (hbw HB.out) hb); clear HO221; clear HO224; clear HO227; clear HO230; clear HB; have HO221 := n0_; have HO224 := n1_; have HO227 := n2_; have HO230 := n3_; have HO233 := n4_; have HB := n5_; clear n0_ n1_ n2_ n3_ n4_ n5_; (try clear hb); (try clear hb2); (try clear hk); (try clear hi); (try clear ho0); obtain ⟨Ao27, co27, eo27⟩ := Kd.R_slice HO233.out; subst eo27; obtain ⟨Ao28, co28, eo28⟩ := Kd.R_slice HO224.out; subst eo28) | ((with_reducible refine gate_callee (f := 14) rfl ?_); refine goesL_ (some 24) rfl rfl Try.func14 (by kernel_rfl) rfl #[.slice Ao27 t231.length co27, .slice Ao28 t222.length co28] rfl (by (try simp only [List.map_toArray, List.map_cons, List.map_nil]); first | done | rfl | (simp only [List.length_drop, List.length_take]; rfl)) ?_; (with_reducible refine (signalbenchref07_Same.calls kj2 _ _ t231 _ _ t222 false _ ?side1 ?side2 ?side3 ?side4 A18.out).mono ?_); (case side1 => repeat (first | exact (Kd.R_reads' HO233.out).2.2 | (with_reducible refine Kd.C_alloc ?_ _) | (with_reducible refine Kd.C_drewN ?_ _) | (with_reducible refine Kd.C_drew ?_))); (case side2 => exact (Kd.R_reads' HO233.out).2.1); (case side3 => repeat (first | exact (Kd.R_reads' HO224.out).2.2 | (with_reducible refine Kd.C_alloc ?_ _) | (with_reducible refine Kd.C_drewN ?_ _) | (with_reducible refine Kd.C_drew ?_))); (case side4 => exact (Kd.R_reads' HO224.out).2.1); rintro e w' ⟨rfl, ⟨nd, rfl⟩⟩; refine ⟨_, rfl, ?_⟩))
     go_meet
     case rel => exact ⟨_, (true), (by first | rfl | (simp; done) | (simp [*]; done)), H', ⟨by have := HJ2.out; first | omega | exact Nat.le_refl _⟩, ⟨by (with_reducible repeat (first | apply Kd.R_alloc | apply Kd.R_drewN | apply Kd.R_drew)); exact Kd.R_mono HO221.out (fun _ hk => hk.1.2)⟩, ⟨by (with_reducible repeat (first | apply Kd.R_alloc | apply Kd.R_drewN | apply Kd.R_drew)); exact Kd.R_mono HO230.out (fun _ hk => hk.1.1.1.2)⟩, ⟨by repeat (first | (with_reducible first | exact HB.out | apply below_alloc | apply pw_below_drewN | apply below_drew1) | exact HB.out)⟩⟩
   case rest =>
    clear HC11
    try clear c1
    try clear c2
    try clear p2
    try clear c4
    try clear c5
    try clear c8
    try clear c9
    try clear c14
    try clear c17
    try clear c19
    try clear c22
    try clear p2
    obtain ⟨kq, x32_10, rfl, HA, HJ10, HO_3, HO_5, HB⟩ := hcut
    cases kq with
    | zero => exact absurd HA.out (by simp [signalbenchlaw16_NrziInverts.j1])
    | succ kj10 =>
     have H := HA.out
     clear HA
     simp only [signalbenchlaw16_NrziInverts.j1] at H
     have HC29 := Aside0.mk H
     clear H
     go_upto_if 32 with (fail)
     go_cut [] (fun wc => ∃ (kq : Nat), Aside0 (signalbenchlaw16_NrziInverts.j2 kq t219 t228 = some r) ∧ Aside0 (kq ≤ kj10) ∧ Aside0 (Kd.R k33 33 wc w.heap.size (fun k_ => some k_ ≠ (v229 : Value).ownBlock) v220 t219) ∧ Aside0 (Kd.R k33 33 wc w.heap.size (fun k_ => some k_ ≠ (v220 : Value).ownBlock) v229 t228) ∧ Aside0 (Below w.heap.size w wc))
     case first =>
      have H := HC29.out
      clear HC29
      by_cases c30 : x32_10 = true
      ·subst c30
       have H1 : (some false) = some r := by rw [if_pos rfl] at H; exact H
       clear H
       have H := H1
       clear H1
       obtain rfl := Option.some.inj H
       go_wp2
       go_ret
       exact ⟨by first | rfl | (simp [errW_none, errW_some] <;> rfl) | (simp [*, errW_none, errW_some] <;> rfl), by repeat (first | (with_reducible first | exact HB.out | apply below_alloc | apply pw_below_drewN | apply below_drew1) | exact HB.out)⟩
      ·replace c30 := Bool.eq_false_iff.mpr c30
       subst c30
       have H1 : (signalbenchlaw16_NrziInverts.j2 kj10 t219 t228) = some r := by rw [if_neg (show ¬ (false = true) by decide)] at H; exact H
       clear H
       have H := H1
       clear H1
       have H' := Aside0.mk H
       clear H
       go_wp2
       go_meet
       case rel => exact ⟨_, H', ⟨by have := HJ2.out; have := HJ10.out; first | omega | exact Nat.le_refl _⟩, ⟨by (with_reducible repeat (first | apply Kd.R_alloc | apply Kd.R_drewN | apply Kd.R_drew)); exact HO_3.out⟩, ⟨by (with_reducible repeat (first | apply Kd.R_alloc | apply Kd.R_drewN | apply Kd.R_drew)); exact HO_5.out⟩, ⟨by repeat (first | (with_reducible first | exact HB.out | apply below_alloc | apply pw_below_drewN | apply below_drew1) | exact HB.out)⟩⟩
     case rest =>
      clear HC29
      try clear c1
      try clear c2
      try clear p2
      try clear c3
      try clear c4
      try clear c5
      try clear c8
      try clear c9
      try clear c14
      try clear c17
      try clear c19
      try clear c22
      try clear c30
      try clear p2
      obtain ⟨kq, HA, HJ28, HO_3, HO_5, HB⟩ := hcut
      cases kq with
      | zero => exact absurd HA.out (by simp [signalbenchlaw16_NrziInverts.j2])
      | succ kj28 =>
       have H := HA.out
       clear HA
       simp only [signalbenchlaw16_NrziInverts.j2] at H
       have H' := Aside0.mk H
       clear H
       go_wp2
       go_loopg [6] kj28 (fun kq v6 w' => ∃ (x6_4 : Int), v6 = .int .i64 x6_4 ∧ Aside0 (signalbenchlaw16_NrziInverts.l0 kq t219 t228 x6_4 = some r) ∧ Aside0 (kq ≤ kj28) ∧ Aside0 (Kd.R k33 33 w' w.heap.size (fun k_ => some k_ ≠ (v229 : Value).ownBlock) v220 t219) ∧ Aside0 (Kd.R k33 33 w' w.heap.size (fun k_ => some k_ ≠ (v220 : Value).ownBlock) v229 t228) ∧ Aside0 (Below w.heap.size w w'))
       case atStart => exact ⟨(1), (by first | rfl | (simp; done) | (simp [*]; done)), H', ⟨Nat.le_refl _⟩, ⟨by (with_reducible repeat (first | apply Kd.R_alloc | apply Kd.R_drewN | apply Kd.R_drew)); exact HO_3.out⟩, ⟨by (with_reducible repeat (first | apply Kd.R_alloc | apply Kd.R_drewN | apply Kd.R_drew)); exact HO_5.out⟩, ⟨by repeat (first | (with_reducible first | exact HB.out | apply below_alloc | apply pw_below_drewN | apply below_drew1) | exact HB.out)⟩⟩
       case round =>
        clear H'
        try clear c1
        try clear c2
        try clear p2
        try clear c3
        try clear c4
        try clear c5
        try clear c8
        try clear c9
        try clear c14
        try clear c17
        try clear c19
        try clear c22
        try clear c30
        try clear p2
        obtain ⟨x6_4, rfl, HA, HK4, HO_3, HO_5, HB⟩ := hrel
        cases gk with
        | zero => exact absurd HA.out (by simp [signalbenchlaw16_NrziInverts.l0])
        | succ k4 =>
         have H := HA.out
         clear HA
         simp only [signalbenchlaw16_NrziInverts.l0] at H
         by_cases c31 : x6_4 < (t219.length : Int)
         ·rw [if_pos c31] at H
          have c31b0 : decide (x6_4 < (t219.length : Int)) = true := decide_eq_true c31
          clear c31
          by_cases c32 : 0 ≤ x6_4
          ·rw [if_pos c32] at H
           have c32b0 : decide (0 ≤ x6_4) = true := decide_eq_true c32
           clear c32
           by_cases c33 : x6_4 < (t228.length : Int)
           ·rw [if_pos c33] at H
            have c33b0 : decide (x6_4 < (t228.length : Int)) = true := decide_eq_true c33
            clear c33
            by_cases c34 : (!(((rd_T33 t219 x6_4).f0) == ((rd_T33 t228 x6_4).f0)) || (!(((rd_T33 t219 x6_4).f1) == ((rd_T33 t228 x6_4).f1)) || (!(((rd_T33 t219 x6_4).f2) == ((rd_T33 t228 x6_4).f2)) || (!(((rd_T33 t219 x6_4).f3) == ((rd_T33 t228 x6_4).f3)) || (!(((rd_T33 t219 x6_4).f4) == ((rd_T33 t228 x6_4).f4)) || (!((((rd_T33 t219 x6_4).f5).toList) == (((rd_T33 t228 x6_4).f5).toList)) || (!(((rd_T33 t219 x6_4).f6) == ((rd_T33 t228 x6_4).f6))))))))) = true
            ·rw [if_pos c34] at H
             have c34b0 : (!(((rd_T33 t219 x6_4).f0) == ((rd_T33 t228 x6_4).f0)) || (!(((rd_T33 t219 x6_4).f1) == ((rd_T33 t228 x6_4).f1)) || (!(((rd_T33 t219 x6_4).f2) == ((rd_T33 t228 x6_4).f2)) || (!(((rd_T33 t219 x6_4).f3) == ((rd_T33 t228 x6_4).f3)) || (!(((rd_T33 t219 x6_4).f4) == ((rd_T33 t228 x6_4).f4)) || (!((((rd_T33 t219 x6_4).f5).toList) == (((rd_T33 t228 x6_4).f5).toList)) || (!(((rd_T33 t219 x6_4).f6) == ((rd_T33 t228 x6_4).f6))))))))) = true := c34
             (try (have c34b1 : ((rd_T33 t219 x6_4).f0 = ((rd_T33 t228 x6_4).f0) ∧ (rd_T33 t219 x6_4).f1 = ((rd_T33 t228 x6_4).f1) ∧ (rd_T33 t219 x6_4).f2 = ((rd_T33 t228 x6_4).f2) ∧ (rd_T33 t219 x6_4).f3 = ((rd_T33 t228 x6_4).f3) ∧ (rd_T33 t219 x6_4).f4 = ((rd_T33 t228 x6_4).f4) ∧ ((rd_T33 t219 x6_4).f5).toList = (((rd_T33 t228 x6_4).f5).toList) ∧ (rd_T33 t219 x6_4).f6 = ((rd_T33 t228 x6_4).f6)) = False := eq_false (by intro h_; have e_ := c34; simp [h_] at e_)))
             clear c34
             obtain rfl := Option.some.inj H
             obtain ⟨Ao35, co35, eo35⟩ := Kd.R_slice HO_3.out
             subst eo35
             try go_wp2
             have n0_ := Aside0.mk (Kd.R_drew HO_3.out)
             have n1_ := Aside0.mk (Kd.R_drew HO_5.out)
             have n2_ := Aside0.mk (below_drew1 HB.out)
             clear HO_3
             clear HO_5
             clear HB
             have HO_3 := n0_
             have HO_5 := n1_
             have HB := n2_
             clear n0_ n1_ n2_
             have p235 : 0 ≤ (x6_4 : Int) := of_decide_eq_true (by first | (with_reducible assumption) | assumption)
             have q235 : x6_4 < (t219.length : Int) := of_decide_eq_true (by first | (with_reducible assumption) | assumption)
             obtain ⟨ad235, e235, hx235_0, hx235_1, hx235_2, hx235_3, hx235_4, hx235_5, hx235_6⟩ := at_T33 (Kd.R_reads' HO_3.out).2.2 x6_4 p235 q235
             cases e235
             replace p235 := eq_true p235
             replace q235 := eq_true q235
             obtain ⟨Ao37, co37, eo37⟩ := Kd.R_slice HO_5.out
             (first | subst eo37 | (injection eo37 with f1_ f2_ f3_; have f4_ := f1_.symm; have f5_ := f3_.symm; clear f1_ f2_ f3_; subst f4_; subst f5_))
             have p236 : 0 ≤ (x6_4 : Int) := of_decide_eq_true (by first | (with_reducible assumption) | assumption)
             have q236 : x6_4 < (t228.length : Int) := of_decide_eq_true (by first | (with_reducible assumption) | assumption)
             obtain ⟨ad236, e236, hx236_0, hx236_1, hx236_2, hx236_3, hx236_4, hx236_5, hx236_6⟩ := at_T33 (Kd.R_reads' HO_5.out).2.2 x6_4 p236 q236
             cases e236
             replace p236 := eq_true p236
             replace q236 := eq_true q236
             refine start_ (n := 9) (S := fun w' => w'.cell? (ad235.add ((x6_4).toNat * 7)) = some (.int .i64 ((rd_T33 t219 x6_4).f0)) ∧ w'.cell? ⟨(ad235.add ((x6_4).toNat * 7)).block, (ad235.add ((x6_4).toNat * 7)).off + 1, none⟩ = some (.int .i64 ((rd_T33 t219 x6_4).f1)) ∧ w'.cell? ⟨(ad235.add ((x6_4).toNat * 7)).block, (ad235.add ((x6_4).toNat * 7)).off + 2, none⟩ = some (.int .i64 ((rd_T33 t219 x6_4).f2)) ∧ w'.cell? ⟨(ad235.add ((x6_4).toNat * 7)).block, (ad235.add ((x6_4).toNat * 7)).off + 3, none⟩ = some (.int .i64 ((rd_T33 t219 x6_4).f3)) ∧ w'.cell? ⟨(ad235.add ((x6_4).toNat * 7)).block, (ad235.add ((x6_4).toNat * 7)).off + 4, none⟩ = some (.int .i64 ((rd_T33 t219 x6_4).f4)) ∧ w'.cell? ⟨(ad235.add ((x6_4).toNat * 7)).block, (ad235.add ((x6_4).toNat * 7)).off + 5, none⟩ = some (.string ((rd_T33 t219 x6_4).f5)) ∧ w'.cell? ⟨(ad235.add ((x6_4).toNat * 7)).block, (ad235.add ((x6_4).toNat * 7)).off + 6, none⟩ = some (.int .i64 ((rd_T33 t219 x6_4).f6)) ∧ w'.cell? (ad236.add ((x6_4).toNat * 7)) = some (.int .i64 ((rd_T33 t228 x6_4).f0)) ∧ w'.cell? ⟨(ad236.add ((x6_4).toNat * 7)).block, (ad236.add ((x6_4).toNat * 7)).off + 1, none⟩ = some (.int .i64 ((rd_T33 t228 x6_4).f1)) ∧ w'.cell? ⟨(ad236.add ((x6_4).toNat * 7)).block, (ad236.add ((x6_4).toNat * 7)).off + 2, none⟩ = some (.int .i64 ((rd_T33 t228 x6_4).f2)) ∧ w'.cell? ⟨(ad236.add ((x6_4).toNat * 7)).block, (ad236.add ((x6_4).toNat * 7)).off + 3, none⟩ = some (.int .i64 ((rd_T33 t228 x6_4).f3)) ∧ w'.cell? ⟨(ad236.add ((x6_4).toNat * 7)).block, (ad236.add ((x6_4).toNat * 7)).off + 4, none⟩ = some (.int .i64 ((rd_T33 t228 x6_4).f4)) ∧ w'.cell? ⟨(ad236.add ((x6_4).toNat * 7)).block, (ad236.add ((x6_4).toNat * 7)).off + 5, none⟩ = some (.string ((rd_T33 t228 x6_4).f5)) ∧ w'.cell? ⟨(ad236.add ((x6_4).toNat * 7)).block, (ad236.add ((x6_4).toNat * 7)).off + 6, none⟩ = some (.int .i64 ((rd_T33 t228 x6_4).f6))) (ds := []) #[false, false, false, false, false, false, false, false, false] (by kernel_rfl) rfl rfl ⟨hx235_0, hx235_1, hx235_2, hx235_3, hx235_4, hx235_5, hx235_6, hx236_0, hx236_1, hx236_2, hx236_3, hx236_4, hx236_5, hx236_6⟩ (fun hHeld => ?_); refine with_tabW signalbenchlaw16_NrziInverts.tab11 signalbenchlaw16_NrziInverts.bits11 (fun HT_ HW_ => ?_)
             generalize wr.drew = w36 at HO_3 HO_5 HB hx235_0 hx235_1 hx235_2 hx235_3 hx235_4 hx235_5 hx235_6 hx236_0 hx236_1 hx236_2 hx236_3 hx236_4 hx236_5 hx236_6 hHeld ⊢
             refine pstep 0 (some 39) #[true, false, false, false, false, false, false, false, false] HT_.out ?_
             refine pstep 1 (some 40) #[true, true, false, false, false, false, false, false, false] HT_.out ?_
             refine pstep 2 (some 41) #[true, true, true, false, false, false, false, false, false] HT_.out ?_
             refine pstep 4 (some 43) #[true, true, true, false, true, false, false, false, false] HT_.out ?_
             refine pstep 5 (some 44) #[true, true, true, false, true, true, false, false, false] HT_.out ?_
             refine pstep 6 (some 45) #[true, true, true, false, true, true, true, false, false] HT_.out ?_
             refine take_ (i := 3) (N := some 42) (v := ?_) (a' := ?_) #[true, true, true, true, true, true, true, false, false] rfl rfl (take_ofW HT_.out HW_.out (by kernel_rfl)) (fun _ _ _ h => h) (Or.inl ⟨by rfl, ?_⟩) hHeld ?_ ?_
             rotate_left
             ·rintro w' ⟨s0, s1, s2, s3, s4, s5, s6, s7, s8, s9, s10, s11, s12, s13⟩
              go_simp
              with_reducible rfl
             rotate_left
             ·simp only [Act.put, nrm]
              rfl
             refine take_ (i := 7) (N := some 46) (v := ?_) (a' := ?_) #[true, true, true, true, true, true, true, true, false] rfl rfl (take_ofW HT_.out HW_.out (by kernel_rfl)) (fun _ _ _ h => h) (Or.inl ⟨by rfl, ?_⟩) hHeld ?_ ?_
             rotate_left
             ·rintro w' ⟨s0, s1, s2, s3, s4, s5, s6, s7, s8, s9, s10, s11, s12, s13⟩
              go_simp
              with_reducible rfl
             rotate_left
             ·simp only [Act.put, nrm]
              rfl
             refine pstep 8 (some 47) #[true, true, true, true, true, true, true, true, true] HT_.out ?_
             refine done_ (done_of HT_.out (by kernel_rfl)) ?_
             try go_wp2
             go_ret
             exact ⟨by first | rfl | (simp [errW_none, errW_some] <;> rfl) | (simp [*, errW_none, errW_some] <;> rfl), by repeat (first | (with_reducible first | exact HB.out | apply below_alloc | apply pw_below_drewN | apply below_drew1) | exact HB.out)⟩
            ·rw [if_neg c34] at H
             have c34b0 : (!(((rd_T33 t219 x6_4).f0) == ((rd_T33 t228 x6_4).f0)) || (!(((rd_T33 t219 x6_4).f1) == ((rd_T33 t228 x6_4).f1)) || (!(((rd_T33 t219 x6_4).f2) == ((rd_T33 t228 x6_4).f2)) || (!(((rd_T33 t219 x6_4).f3) == ((rd_T33 t228 x6_4).f3)) || (!(((rd_T33 t219 x6_4).f4) == ((rd_T33 t228 x6_4).f4)) || (!((((rd_T33 t219 x6_4).f5).toList) == (((rd_T33 t228 x6_4).f5).toList)) || (!(((rd_T33 t219 x6_4).f6) == ((rd_T33 t228 x6_4).f6))))))))) = false := by simpa using c34
             (try (have c34b1 : ((rd_T33 t219 x6_4).f0 = ((rd_T33 t228 x6_4).f0) ∧ (rd_T33 t219 x6_4).f1 = ((rd_T33 t228 x6_4).f1) ∧ (rd_T33 t219 x6_4).f2 = ((rd_T33 t228 x6_4).f2) ∧ (rd_T33 t219 x6_4).f3 = ((rd_T33 t228 x6_4).f3) ∧ (rd_T33 t219 x6_4).f4 = ((rd_T33 t228 x6_4).f4) ∧ ((rd_T33 t219 x6_4).f5).toList = (((rd_T33 t228 x6_4).f5).toList) ∧ (rd_T33 t219 x6_4).f6 = ((rd_T33 t228 x6_4).f6)) = True := eq_true (by simpa using c34)))
             clear c34
             have H' := Aside0.mk H
             clear H
             obtain ⟨Ao38, co38, eo38⟩ := Kd.R_slice HO_3.out
             subst eo38
             try go_wp2
             have n0_ := Aside0.mk (Kd.R_drew HO_3.out)
             have n1_ := Aside0.mk (Kd.R_drew HO_5.out)
             have n2_ := Aside0.mk (below_drew1 HB.out)
             clear HO_3
             clear HO_5
             clear HB
             have HO_3 := n0_
             have HO_5 := n1_
             have HB := n2_
             clear n0_ n1_ n2_
             have p235 : 0 ≤ (x6_4 : Int) := of_decide_eq_true (by first | (with_reducible assumption) | assumption)
             have q235 : x6_4 < (t219.length : Int) := of_decide_eq_true (by first | (with_reducible assumption) | assumption)
             obtain ⟨ad235, e235, hx235_0, hx235_1, hx235_2, hx235_3, hx235_4, hx235_5, hx235_6⟩ := at_T33 (Kd.R_reads' HO_3.out).2.2 x6_4 p235 q235
             cases e235
             replace p235 := eq_true p235
             replace q235 := eq_true q235
             obtain ⟨Ao40, co40, eo40⟩ := Kd.R_slice HO_5.out
             (first | subst eo40 | (injection eo40 with f1_ f2_ f3_; have f4_ := f1_.symm; have f5_ := f3_.symm; clear f1_ f2_ f3_; subst f4_; subst f5_))
             have p236 : 0 ≤ (x6_4 : Int) := of_decide_eq_true (by first | (with_reducible assumption) | assumption)
             have q236 : x6_4 < (t228.length : Int) := of_decide_eq_true (by first | (with_reducible assumption) | assumption)
             obtain ⟨ad236, e236, hx236_0, hx236_1, hx236_2, hx236_3, hx236_4, hx236_5, hx236_6⟩ := at_T33 (Kd.R_reads' HO_5.out).2.2 x6_4 p236 q236
             cases e236
             replace p236 := eq_true p236
             replace q236 := eq_true q236
             refine start_ (n := 9) (S := fun w' => w'.cell? (ad235.add ((x6_4).toNat * 7)) = some (.int .i64 ((rd_T33 t219 x6_4).f0)) ∧ w'.cell? ⟨(ad235.add ((x6_4).toNat * 7)).block, (ad235.add ((x6_4).toNat * 7)).off + 1, none⟩ = some (.int .i64 ((rd_T33 t219 x6_4).f1)) ∧ w'.cell? ⟨(ad235.add ((x6_4).toNat * 7)).block, (ad235.add ((x6_4).toNat * 7)).off + 2, none⟩ = some (.int .i64 ((rd_T33 t219 x6_4).f2)) ∧ w'.cell? ⟨(ad235.add ((x6_4).toNat * 7)).block, (ad235.add ((x6_4).toNat * 7)).off + 3, none⟩ = some (.int .i64 ((rd_T33 t219 x6_4).f3)) ∧ w'.cell? ⟨(ad235.add ((x6_4).toNat * 7)).block, (ad235.add ((x6_4).toNat * 7)).off + 4, none⟩ = some (.int .i64 ((rd_T33 t219 x6_4).f4)) ∧ w'.cell? ⟨(ad235.add ((x6_4).toNat * 7)).block, (ad235.add ((x6_4).toNat * 7)).off + 5, none⟩ = some (.string ((rd_T33 t219 x6_4).f5)) ∧ w'.cell? ⟨(ad235.add ((x6_4).toNat * 7)).block, (ad235.add ((x6_4).toNat * 7)).off + 6, none⟩ = some (.int .i64 ((rd_T33 t219 x6_4).f6)) ∧ w'.cell? (ad236.add ((x6_4).toNat * 7)) = some (.int .i64 ((rd_T33 t228 x6_4).f0)) ∧ w'.cell? ⟨(ad236.add ((x6_4).toNat * 7)).block, (ad236.add ((x6_4).toNat * 7)).off + 1, none⟩ = some (.int .i64 ((rd_T33 t228 x6_4).f1)) ∧ w'.cell? ⟨(ad236.add ((x6_4).toNat * 7)).block, (ad236.add ((x6_4).toNat * 7)).off + 2, none⟩ = some (.int .i64 ((rd_T33 t228 x6_4).f2)) ∧ w'.cell? ⟨(ad236.add ((x6_4).toNat * 7)).block, (ad236.add ((x6_4).toNat * 7)).off + 3, none⟩ = some (.int .i64 ((rd_T33 t228 x6_4).f3)) ∧ w'.cell? ⟨(ad236.add ((x6_4).toNat * 7)).block, (ad236.add ((x6_4).toNat * 7)).off + 4, none⟩ = some (.int .i64 ((rd_T33 t228 x6_4).f4)) ∧ w'.cell? ⟨(ad236.add ((x6_4).toNat * 7)).block, (ad236.add ((x6_4).toNat * 7)).off + 5, none⟩ = some (.string ((rd_T33 t228 x6_4).f5)) ∧ w'.cell? ⟨(ad236.add ((x6_4).toNat * 7)).block, (ad236.add ((x6_4).toNat * 7)).off + 6, none⟩ = some (.int .i64 ((rd_T33 t228 x6_4).f6))) (ds := []) #[false, false, false, false, false, false, false, false, false] (by kernel_rfl) rfl rfl ⟨hx235_0, hx235_1, hx235_2, hx235_3, hx235_4, hx235_5, hx235_6, hx236_0, hx236_1, hx236_2, hx236_3, hx236_4, hx236_5, hx236_6⟩ (fun hHeld => ?_); refine with_tabW signalbenchlaw16_NrziInverts.tab11 signalbenchlaw16_NrziInverts.bits11 (fun HT_ HW_ => ?_)
             generalize wr.drew = w39 at HO_3 HO_5 HB hx235_0 hx235_1 hx235_2 hx235_3 hx235_4 hx235_5 hx235_6 hx236_0 hx236_1 hx236_2 hx236_3 hx236_4 hx236_5 hx236_6 hHeld ⊢
             refine pstep 0 (some 39) #[true, false, false, false, false, false, false, false, false] HT_.out ?_
             refine pstep 1 (some 40) #[true, true, false, false, false, false, false, false, false] HT_.out ?_
             refine pstep 2 (some 41) #[true, true, true, false, false, false, false, false, false] HT_.out ?_
             refine pstep 4 (some 43) #[true, true, true, false, true, false, false, false, false] HT_.out ?_
             refine pstep 5 (some 44) #[true, true, true, false, true, true, false, false, false] HT_.out ?_
             refine pstep 6 (some 45) #[true, true, true, false, true, true, true, false, false] HT_.out ?_
             refine take_ (i := 3) (N := some 42) (v := ?_) (a' := ?_) #[true, true, true, true, true, true, true, false, false] rfl rfl (take_ofW HT_.out HW_.out (by kernel_rfl)) (fun _ _ _ h => h) (Or.inl ⟨by rfl, ?_⟩) hHeld ?_ ?_
             rotate_left
             ·rintro w' ⟨s0, s1, s2, s3, s4, s5, s6, s7, s8, s9, s10, s11, s12, s13⟩
              go_simp
              with_reducible rfl
             rotate_left
             ·simp only [Act.put, nrm]
              rfl
             refine take_ (i := 7) (N := some 46) (v := ?_) (a' := ?_) #[true, true, true, true, true, true, true, true, false] rfl rfl (take_ofW HT_.out HW_.out (by kernel_rfl)) (fun _ _ _ h => h) (Or.inl ⟨by rfl, ?_⟩) hHeld ?_ ?_
             rotate_left
             ·rintro w' ⟨s0, s1, s2, s3, s4, s5, s6, s7, s8, s9, s10, s11, s12, s13⟩
              go_simp
              with_reducible rfl
             rotate_left
             ·simp only [Act.put, nrm]
              rfl
             refine pstep 8 (some 47) #[true, true, true, true, true, true, true, true, true] HT_.out ?_
             refine done_ (done_of HT_.out (by kernel_rfl)) ?_
             try go_wp2
             go_roundg k4
             case measure => have := HJ2.out; have := HJ10.out; have := HJ28.out; have := HK4.out; omega
             case rel => exact ⟨(wrap64 (x6_4 + 1)), (by first | rfl | (simp; done) | (simp [*]; done)), H', ⟨by have := HJ2.out; have := HJ10.out; have := HJ28.out; have := HK4.out; omega⟩, ⟨by (with_reducible repeat (first | apply Kd.R_alloc | apply Kd.R_drewN | apply Kd.R_drew)); exact HO_3.out⟩, ⟨by (with_reducible repeat (first | apply Kd.R_alloc | apply Kd.R_drewN | apply Kd.R_drew)); exact HO_5.out⟩, ⟨by repeat (first | (with_reducible first | exact HB.out | apply below_alloc | apply pw_below_drewN | apply below_drew1) | exact HB.out)⟩⟩
           ·rw [if_neg c33] at H
            exact absurd H (by simp)
          ·rw [if_neg c32] at H
           exact absurd H (by simp)
         ·rw [if_neg c31] at H
          have c31b0 : decide (x6_4 < (t219.length : Int)) = false := decide_eq_false c31
          clear c31
          by_cases c41 : (t219.length : Int) = 0
          ·rw [if_pos c41] at H
           have c41b0 : ((t219.length : Int) == 0) = true := beq_iff_eq.mpr c41
           have c41b1 : ((t219.length : Int) != 0) = false := bne_eq_false_iff_eq.mpr c41
           clear c41
           replace H := Option.bind_eq_some_iff.mp H
           obtain ⟨t237, A420, H⟩ := H
           replace H : (some t237) = some r := H
           have A42 := Aside0.mk A420
           clear A420
           obtain rfl := Option.some.inj H
           obtain ⟨Ao43, co43, eo43⟩ := Kd.R_slice HO_3.out
           subst eo43
           try go_wp2
           have n0_ := Aside0.mk (Kd.R_drew HO_3.out)
           have n1_ := Aside0.mk (Kd.R_drew HO_5.out)
           have n2_ := Aside0.mk (below_drew1 HB.out)
           clear HO_3
           clear HO_5
           clear HB
           have HO_3 := n0_
           have HO_5 := n1_
           have HB := n2_
           clear n0_ n1_ n2_
           refine start_ (n := 19) (S := fun w' => True) (ds := []) #[false, false, false, false, false, false, false, false, false, false, false, false, false, false, false, false, false, false, false] (by kernel_rfl) rfl rfl trivial (fun hHeld => ?_); refine with_tabW signalbenchlaw16_NrziInverts.tab13 signalbenchlaw16_NrziInverts.bits13 (fun HT_ HW_ => ?_)
           generalize wr.drew = w44 at HO_3 HO_5 HB hHeld ⊢
           refine pstep 0 (some 48) #[true, false, false, false, false, false, false, false, false, false, false, false, false, false, false, false, false, false, false] HT_.out ?_
           refine pstep 1 (some 49) #[true, true, false, false, false, false, false, false, false, false, false, false, false, false, false, false, false, false, false] HT_.out ?_
           refine pstep 2 (some 50) #[true, true, true, false, false, false, false, false, false, false, false, false, false, false, false, false, false, false, false] HT_.out ?_
           refine pstep 3 (some 51) #[true, true, true, true, false, false, false, false, false, false, false, false, false, false, false, false, false, false, false] HT_.out ?_
           refine pure_ (i := 4) (N := some 52) (v := undef) (a' := ?_) #[true, true, true, true, true, false, false, false, false, false, false, false, false, false, false, false, false, false, false] rfl rfl (any_of HT_.out (by kernel_rfl)) (fun _ _ _ h => h) (Or.inr ⟨by rfl, rfl⟩) ?_ ?_
           rotate_left
           ·simp only [Act.put, nrm]
            rfl
           refine pure_ (i := 5) (N := some 53) (v := undef) (a' := ?_) #[true, true, true, true, true, true, false, false, false, false, false, false, false, false, false, false, false, false, false] rfl rfl (any_of HT_.out (by kernel_rfl)) (fun _ _ _ h => h) (Or.inr ⟨by rfl, rfl⟩) ?_ ?_
           rotate_left
           ·simp only [Act.put, nrm]
            rfl
           refine pure_ (i := 6) (N := some 54) (v := undef) (a' := ?_) #[true, true, true, true, true, true, true, false, false, false, false, false, false, false, false, false, false, false, false] rfl rfl (any_of HT_.out (by kernel_rfl)) (fun _ _ _ h => h) (Or.inr ⟨by rfl, rfl⟩) ?_ ?_
           rotate_left
           ·simp only [Act.put, nrm]
            rfl
           refine pure_ (i := 7) (N := some 55) (v := undef) (a' := ?_) #[true, true, true, true, true, true, true, true, false, false, false, false, false, false, false, false, false, false, false] rfl rfl (any_of HT_.out (by kernel_rfl)) (fun _ _ _ h => h) (Or.inr ⟨by rfl, rfl⟩) ?_ ?_
           rotate_left
           ·simp only [Act.put, nrm]
            rfl
           refine pure_ (i := 8) (N := some 56) (v := undef) (a' := ?_) #[true, true, true, true, true, true, true, true, true, false, false, false, false, false, false, false, false, false, false] rfl rfl (any_of HT_.out (by kernel_rfl)) (fun _ _ _ h => h) (Or.inr ⟨by rfl, rfl⟩) ?_ ?_
           rotate_left
           ·simp only [Act.put, nrm]
            rfl
           refine pure_ (i := 9) (N := some 57) (v := undef) (a' := ?_) #[true, true, true, true, true, true, true, true, true, true, false, false, false, false, false, false, false, false, false] rfl rfl (any_of HT_.out (by kernel_rfl)) (fun _ _ _ h => h) (Or.inr ⟨by rfl, rfl⟩) ?_ ?_
           rotate_left
           ·simp only [Act.put, nrm]
            rfl
           refine pure_ (i := 10) (N := some 58) (v := undef) (a' := ?_) #[true, true, true, true, true, true, true, true, true, true, true, false, false, false, false, false, false, false, false] rfl rfl (any_of HT_.out (by kernel_rfl)) (fun _ _ _ h => h) (Or.inr ⟨by rfl, rfl⟩) ?_ ?_
           rotate_left
           ·simp only [Act.put, nrm]
            rfl
           refine pure_ (i := 11) (N := some 59) (v := undef) (a' := ?_) #[true, true, true, true, true, true, true, true, true, true, true, true, false, false, false, false, false, false, false] rfl rfl (any_of HT_.out (by kernel_rfl)) (fun _ _ _ h => h) (Or.inr ⟨by rfl, rfl⟩) ?_ ?_
           rotate_left
           ·simp only [Act.put, nrm]
            rfl
           refine pure_ (i := 12) (N := some 60) (v := undef) (a' := ?_) #[true, true, true, true, true, true, true, true, true, true, true, true, true, false, false, false, false, false, false] rfl rfl (any_of HT_.out (by kernel_rfl)) (fun _ _ _ h => h) (Or.inr ⟨by rfl, rfl⟩) ?_ ?_
           rotate_left
           ·simp only [Act.put, nrm]
            rfl
           refine pure_ (i := 13) (N := some 61) (v := undef) (a' := ?_) #[true, true, true, true, true, true, true, true, true, true, true, true, true, true, false, false, false, false, false] rfl rfl (any_of HT_.out (by kernel_rfl)) (fun _ _ _ h => h) (Or.inr ⟨by rfl, rfl⟩) ?_ ?_
           rotate_left
           ·simp only [Act.put, nrm]
            rfl
           refine pstep 14 (some 62) #[true, true, true, true, true, true, true, true, true, true, true, true, true, true, true, false, false, false, false] HT_.out ?_
           refine pstep 15 (some 63) #[true, true, true, true, true, true, true, true, true, true, true, true, true, true, true, true, false, false, false] HT_.out ?_
           refine one_ (i := 16) (N := some 64) #[true, true, true, true, true, true, true, true, true, true, true, true, true, true, true, true, true, false, false] rfl rfl (one_of HT_.out (by kernel_rfl)) (by decide) (fun K hK => ?_)
           refine goes_ Try.func9 (by kernel_rfl) rfl #[] (by rfl) rfl rfl (by (try simp only [List.map_toArray, List.map_cons, List.map_nil]); first | done | rfl | (simp only [List.length_drop, List.length_take]; rfl)) ?_
           with_reducible refine (signalbenchlaw16_awake.calls k4  t237 _ A42.out).mono ?_
           rintro e w45 ⟨rfl, hb⟩
           refine ⟨_, rfl, ?_⟩
           have n0_ := Aside0.mk (Kd.R_below (rkw HO_3.out) hb)
           have n1_ := Aside0.mk (Kd.R_below (rkw HO_5.out) hb)
           have n2_ := Aside0.mk (below_step (hbw HB.out) hb)
           clear HO_3
           clear HO_5
           clear HB
           have HO_3 := n0_
           have HO_5 := n1_
           have HB := n2_
           clear n0_ n1_ n2_
           (try clear hb)
           (try clear hb2)
           (try clear hk)
           (try clear hi)
           refine hK.out _ _ trivial (fun hHeld => ?_)
           clear hK K
           refine norm_ (a' := ?_) ?_ ?_
           rotate_left
           ·show Act.put _ (some 64) _ = _
            simp only [Act.put, nrm]
            rfl
           refine pstep 17 (some 65) #[true, true, true, true, true, true, true, true, true, true, true, true, true, true, true, true, true, true, false] HT_.out ?_
           refine pstep 18 (some 2) #[true, true, true, true, true, true, true, true, true, true, true, true, true, true, true, true, true, true, true] HT_.out ?_
           refine done_ (done_of HT_.out (by kernel_rfl)) ?_
           try go_wp2
           go_ret
           exact ⟨by first | rfl | (simp [errW_none, errW_some] <;> rfl) | (simp [*, errW_none, errW_some] <;> rfl), by repeat (first | (with_reducible first | exact HB.out | apply below_alloc | apply pw_below_drewN | apply below_drew1) | exact HB.out)⟩
          ·rw [if_neg c41] at H
           have c41b0 : ((t219.length : Int) == 0) = false := beq_eq_false_iff_ne.mpr c41
           have c41b1 : ((t219.length : Int) != 0) = true := bne_iff_ne.mpr c41
           have c41b2 : ¬ (t219 = []) := fun h_ => c41 (by rw [h_]; rfl)
           by_cases c46 : 0 < (t219.length : Int)
           ·rw [if_pos c46] at H
            have c46b0 : decide (0 < (t219.length : Int)) = true := decide_eq_true c46
            have c46b1 : decide (0 < t219.length) = true := decide_eq_true (by omega)
            clear c46
            by_cases c47 : 0 < (t228.length : Int)
            ·rw [if_pos c47] at H
             have c47b0 : decide (0 < (t228.length : Int)) = true := decide_eq_true c47
             have c47b1 : decide (0 < t228.length) = true := decide_eq_true (by omega)
             clear c47
             by_cases c48 : ((rd_T33 t219 0).f3) = (wrap64 (1 - ((rd_T33 t228 0).f3)))
             ·rw [if_pos c48] at H
              have c48b0 : (((rd_T33 t219 0).f3) == (wrap64 (1 - ((rd_T33 t228 0).f3)))) = true := beq_iff_eq.mpr c48
              have c48b1 : (((rd_T33 t219 0).f3) != (wrap64 (1 - ((rd_T33 t228 0).f3)))) = false := bne_eq_false_iff_eq.mpr c48
              clear c48
              replace H := Option.bind_eq_some_iff.mp H
              obtain ⟨t240, A490, H⟩ := H
              replace H : (some t240) = some r := H
              have A49 := Aside0.mk A490
              clear A490
              obtain rfl := Option.some.inj H
              obtain ⟨Ao50, co50, eo50⟩ := Kd.R_slice HO_3.out
              subst eo50
              try go_wp2
              have n0_ := Aside0.mk (Kd.R_drew HO_3.out)
              have n1_ := Aside0.mk (Kd.R_drew HO_5.out)
              have n2_ := Aside0.mk (below_drew1 HB.out)
              clear HO_3
              clear HO_5
              clear HB
              have HO_3 := n0_
              have HO_5 := n1_
              have HB := n2_
              clear n0_ n1_ n2_
              have p238 : 0 ≤ (0 : Int) := (by omega)
              have q238 : 0 < (t219.length : Int) := of_decide_eq_true (by first | (with_reducible assumption) | assumption)
              obtain ⟨ad238, e238, hx238_0, hx238_1, hx238_2, hx238_3, hx238_4, hx238_5, hx238_6⟩ := at_T33 (Kd.R_reads' HO_3.out).2.2 0 p238 q238
              cases e238
              have qi238 : (0 < t219.length) = True := eq_true (by omega)
              (try rw [show ((0 : Int)).toNat = 0 from rfl] at hx238_0)
              (try rw [show 0 * 7 = 0 from rfl] at hx238_0)
              (try rw [Addr.add_zero'] at hx238_0)
              (try rw [show ((0 : Int)).toNat = 0 from rfl] at hx238_1)
              (try rw [show 0 * 7 = 0 from rfl] at hx238_1)
              (try rw [Addr.add_zero'] at hx238_1)
              (try rw [show ((0 : Int)).toNat = 0 from rfl] at hx238_2)
              (try rw [show 0 * 7 = 0 from rfl] at hx238_2)
              (try rw [Addr.add_zero'] at hx238_2)
              (try rw [show ((0 : Int)).toNat = 0 from rfl] at hx238_3)
              (try rw [show 0 * 7 = 0 from rfl] at hx238_3)
              (try rw [Addr.add_zero'] at hx238_3)
              (try rw [show ((0 : Int)).toNat = 0 from rfl] at hx238_4)
              (try rw [show 0 * 7 = 0 from rfl] at hx238_4)
              (try rw [Addr.add_zero'] at hx238_4)
              (try rw [show ((0 : Int)).toNat = 0 from rfl] at hx238_5)
              (try rw [show 0 * 7 = 0 from rfl] at hx238_5)
              (try rw [Addr.add_zero'] at hx238_5)
              (try rw [show ((0 : Int)).toNat = 0 from rfl] at hx238_6)
              (try rw [show 0 * 7 = 0 from rfl] at hx238_6)
              (try rw [Addr.add_zero'] at hx238_6)
              replace p238 := eq_true p238
              replace q238 := eq_true q238
              obtain ⟨Ao52, co52, eo52⟩ := Kd.R_slice HO_5.out
              (first | subst eo52 | (injection eo52 with f1_ f2_ f3_; have f4_ := f1_.symm; have f5_ := f3_.symm; clear f1_ f2_ f3_; subst f4_; subst f5_))
              have p239 : 0 ≤ (0 : Int) := (by omega)
              have q239 : 0 < (t228.length : Int) := of_decide_eq_true (by first | (with_reducible assumption) | assumption)
              obtain ⟨ad239, e239, hx239_0, hx239_1, hx239_2, hx239_3, hx239_4, hx239_5, hx239_6⟩ := at_T33 (Kd.R_reads' HO_5.out).2.2 0 p239 q239
              cases e239
              have qi239 : (0 < t228.length) = True := eq_true (by omega)
              (try rw [show ((0 : Int)).toNat = 0 from rfl] at hx239_0)
              (try rw [show 0 * 7 = 0 from rfl] at hx239_0)
              (try rw [Addr.add_zero'] at hx239_0)
              (try rw [show ((0 : Int)).toNat = 0 from rfl] at hx239_1)
              (try rw [show 0 * 7 = 0 from rfl] at hx239_1)
              (try rw [Addr.add_zero'] at hx239_1)
              (try rw [show ((0 : Int)).toNat = 0 from rfl] at hx239_2)
              (try rw [show 0 * 7 = 0 from rfl] at hx239_2)
              (try rw [Addr.add_zero'] at hx239_2)
              (try rw [show ((0 : Int)).toNat = 0 from rfl] at hx239_3)
              (try rw [show 0 * 7 = 0 from rfl] at hx239_3)
              (try rw [Addr.add_zero'] at hx239_3)
              (try rw [show ((0 : Int)).toNat = 0 from rfl] at hx239_4)
              (try rw [show 0 * 7 = 0 from rfl] at hx239_4)
              (try rw [Addr.add_zero'] at hx239_4)
              (try rw [show ((0 : Int)).toNat = 0 from rfl] at hx239_5)
              (try rw [show 0 * 7 = 0 from rfl] at hx239_5)
              (try rw [Addr.add_zero'] at hx239_5)
              (try rw [show ((0 : Int)).toNat = 0 from rfl] at hx239_6)
              (try rw [show 0 * 7 = 0 from rfl] at hx239_6)
              (try rw [Addr.add_zero'] at hx239_6)
              replace p239 := eq_true p239
              replace q239 := eq_true q239
              refine start_ (n := 19) (S := fun w' => w'.cell? ad238 = some (.int .i64 ((rd_T33 t219 0).f0)) ∧ w'.cell? ⟨ad238.block, ad238.off + 1, none⟩ = some (.int .i64 ((rd_T33 t219 0).f1)) ∧ w'.cell? ⟨ad238.block, ad238.off + 2, none⟩ = some (.int .i64 ((rd_T33 t219 0).f2)) ∧ w'.cell? ⟨ad238.block, ad238.off + 3, none⟩ = some (.int .i64 ((rd_T33 t219 0).f3)) ∧ w'.cell? ⟨ad238.block, ad238.off + 4, none⟩ = some (.int .i64 ((rd_T33 t219 0).f4)) ∧ w'.cell? ⟨ad238.block, ad238.off + 5, none⟩ = some (.string ((rd_T33 t219 0).f5)) ∧ w'.cell? ⟨ad238.block, ad238.off + 6, none⟩ = some (.int .i64 ((rd_T33 t219 0).f6)) ∧ w'.cell? ad239 = some (.int .i64 ((rd_T33 t228 0).f0)) ∧ w'.cell? ⟨ad239.block, ad239.off + 1, none⟩ = some (.int .i64 ((rd_T33 t228 0).f1)) ∧ w'.cell? ⟨ad239.block, ad239.off + 2, none⟩ = some (.int .i64 ((rd_T33 t228 0).f2)) ∧ w'.cell? ⟨ad239.block, ad239.off + 3, none⟩ = some (.int .i64 ((rd_T33 t228 0).f3)) ∧ w'.cell? ⟨ad239.block, ad239.off + 4, none⟩ = some (.int .i64 ((rd_T33 t228 0).f4)) ∧ w'.cell? ⟨ad239.block, ad239.off + 5, none⟩ = some (.string ((rd_T33 t228 0).f5)) ∧ w'.cell? ⟨ad239.block, ad239.off + 6, none⟩ = some (.int .i64 ((rd_T33 t228 0).f6))) (ds := []) #[false, false, false, false, false, false, false, false, false, false, false, false, false, false, false, false, false, false, false] (by kernel_rfl) rfl rfl ⟨hx238_0, hx238_1, hx238_2, hx238_3, hx238_4, hx238_5, hx238_6, hx239_0, hx239_1, hx239_2, hx239_3, hx239_4, hx239_5, hx239_6⟩ (fun hHeld => ?_); refine with_tabW signalbenchlaw16_NrziInverts.tab13 signalbenchlaw16_NrziInverts.bits13 (fun HT_ HW_ => ?_)
              generalize wr.drew = w51 at HO_3 HO_5 HB hx238_0 hx238_1 hx238_2 hx238_3 hx238_4 hx238_5 hx238_6 hx239_0 hx239_1 hx239_2 hx239_3 hx239_4 hx239_5 hx239_6 hHeld ⊢
              refine pstep 0 (some 48) #[true, false, false, false, false, false, false, false, false, false, false, false, false, false, false, false, false, false, false] HT_.out ?_
              refine pstep 1 (some 49) #[true, true, false, false, false, false, false, false, false, false, false, false, false, false, false, false, false, false, false] HT_.out ?_
              refine pstep 2 (some 50) #[true, true, true, false, false, false, false, false, false, false, false, false, false, false, false, false, false, false, false] HT_.out ?_
              refine pstep 3 (some 51) #[true, true, true, true, false, false, false, false, false, false, false, false, false, false, false, false, false, false, false] HT_.out ?_
              refine pstep 4 (some 52) #[true, true, true, true, true, false, false, false, false, false, false, false, false, false, false, false, false, false, false] HT_.out ?_
              refine pstep 5 (some 53) #[true, true, true, true, true, true, false, false, false, false, false, false, false, false, false, false, false, false, false] HT_.out ?_
              refine pstep 6 (some 54) #[true, true, true, true, true, true, true, false, false, false, false, false, false, false, false, false, false, false, false] HT_.out ?_
              refine pstep 8 (some 56) #[true, true, true, true, true, true, true, false, true, false, false, false, false, false, false, false, false, false, false] HT_.out ?_
              refine pstep 9 (some 57) #[true, true, true, true, true, true, true, false, true, true, false, false, false, false, false, false, false, false, false] HT_.out ?_
              refine pstep 10 (some 58) #[true, true, true, true, true, true, true, false, true, true, true, false, false, false, false, false, false, false, false] HT_.out ?_
              refine take_ (i := 7) (N := some 55) (v := ?_) (a' := ?_) #[true, true, true, true, true, true, true, true, true, true, true, false, false, false, false, false, false, false, false] rfl rfl (take_ofW HT_.out HW_.out (by kernel_rfl)) (fun _ _ _ h => h) (Or.inl ⟨by rfl, ?_⟩) hHeld ?_ ?_
              rotate_left
              ·rintro w' ⟨s0, s1, s2, s3, s4, s5, s6, s7, s8, s9, s10, s11, s12, s13⟩
               go_simp
               with_reducible rfl
              rotate_left
              ·simp only [Act.put, nrm]
               rfl
              refine take_ (i := 11) (N := some 59) (v := ?_) (a' := ?_) #[true, true, true, true, true, true, true, true, true, true, true, true, false, false, false, false, false, false, false] rfl rfl (take_ofW HT_.out HW_.out (by kernel_rfl)) (fun _ _ _ h => h) (Or.inl ⟨by rfl, ?_⟩) hHeld ?_ ?_
              rotate_left
              ·rintro w' ⟨s0, s1, s2, s3, s4, s5, s6, s7, s8, s9, s10, s11, s12, s13⟩
               go_simp
               with_reducible rfl
              rotate_left
              ·simp only [Act.put, nrm]
               rfl
              refine pstep 12 (some 60) #[true, true, true, true, true, true, true, true, true, true, true, true, true, false, false, false, false, false, false] HT_.out ?_
              refine pstep 13 (some 61) #[true, true, true, true, true, true, true, true, true, true, true, true, true, true, false, false, false, false, false] HT_.out ?_
              refine pstep 14 (some 62) #[true, true, true, true, true, true, true, true, true, true, true, true, true, true, true, false, false, false, false] HT_.out ?_
              refine pstep 15 (some 63) #[true, true, true, true, true, true, true, true, true, true, true, true, true, true, true, true, false, false, false] HT_.out ?_
              refine one_ (i := 16) (N := some 64) #[true, true, true, true, true, true, true, true, true, true, true, true, true, true, true, true, true, false, false] rfl rfl (one_of HT_.out (by kernel_rfl)) (by decide) (fun K hK => ?_)
              refine goes_ Try.func9 (by kernel_rfl) rfl #[] (by rfl) rfl rfl (by (try simp only [List.map_toArray, List.map_cons, List.map_nil]); first | done | rfl | (simp only [List.length_drop, List.length_take]; rfl)) ?_
              with_reducible refine (signalbenchlaw16_awake.calls k4  t240 _ A49.out).mono ?_
              rintro e w53 ⟨rfl, hb⟩
              have HS0_ := (hb.cell (World.block_lt_of_cell? _ _ (hHeld.1))).trans (hHeld.1)
              have HS1_ := (hb.cell (World.block_lt_of_cell? _ _ (hHeld.2.1))).trans (hHeld.2.1)
              have HS2_ := (hb.cell (World.block_lt_of_cell? _ _ (hHeld.2.2.1))).trans (hHeld.2.2.1)
              have HS3_ := (hb.cell (World.block_lt_of_cell? _ _ (hHeld.2.2.2.1))).trans (hHeld.2.2.2.1)
              have HS4_ := (hb.cell (World.block_lt_of_cell? _ _ (hHeld.2.2.2.2.1))).trans (hHeld.2.2.2.2.1)
              have HS5_ := (hb.cell (World.block_lt_of_cell? _ _ (hHeld.2.2.2.2.2.1))).trans (hHeld.2.2.2.2.2.1)
              have HS6_ := (hb.cell (World.block_lt_of_cell? _ _ (hHeld.2.2.2.2.2.2.1))).trans (hHeld.2.2.2.2.2.2.1)
              have HS7_ := (hb.cell (World.block_lt_of_cell? _ _ (hHeld.2.2.2.2.2.2.2.1))).trans (hHeld.2.2.2.2.2.2.2.1)
              have HS8_ := (hb.cell (World.block_lt_of_cell? _ _ (hHeld.2.2.2.2.2.2.2.2.1))).trans (hHeld.2.2.2.2.2.2.2.2.1)
              have HS9_ := (hb.cell (World.block_lt_of_cell? _ _ (hHeld.2.2.2.2.2.2.2.2.2.1))).trans (hHeld.2.2.2.2.2.2.2.2.2.1)
              have HS10_ := (hb.cell (World.block_lt_of_cell? _ _ (hHeld.2.2.2.2.2.2.2.2.2.2.1))).trans (hHeld.2.2.2.2.2.2.2.2.2.2.1)
              have HS11_ := (hb.cell (World.block_lt_of_cell? _ _ (hHeld.2.2.2.2.2.2.2.2.2.2.2.1))).trans (hHeld.2.2.2.2.2.2.2.2.2.2.2.1)
              have HS12_ := (hb.cell (World.block_lt_of_cell? _ _ (hHeld.2.2.2.2.2.2.2.2.2.2.2.2.1))).trans (hHeld.2.2.2.2.2.2.2.2.2.2.2.2.1)
              have HS13_ := (hb.cell (World.block_lt_of_cell? _ _ (hHeld.2.2.2.2.2.2.2.2.2.2.2.2.2))).trans (hHeld.2.2.2.2.2.2.2.2.2.2.2.2.2)
              refine ⟨_, rfl, ?_⟩
              have n0_ := Aside0.mk (Kd.R_below (rkw HO_3.out) hb)
              have n1_ := Aside0.mk (Kd.R_below (rkw HO_5.out) hb)
              have n2_ := Aside0.mk (below_step (hbw HB.out) hb)
              clear HO_3
              clear HO_5
              clear HB
              have HO_3 := n0_
              have HO_5 := n1_
              have HB := n2_
              clear n0_ n1_ n2_
              (try clear hb)
              (try clear hb2)
              (try clear hk)
              (try clear hi)
              refine hK.out _ _ ⟨HS0_, HS1_, HS2_, HS3_, HS4_, HS5_, HS6_, HS7_, HS8_, HS9_, HS10_, HS11_, HS12_, HS13_⟩ (fun hHeld => ?_)
              clear hK K
              refine norm_ (a' := ?_) ?_ ?_
              rotate_left
              ·show Act.put _ (some 64) _ = _
               simp only [Act.put, nrm]
               rfl
              refine pstep 17 (some 65) #[true, true, true, true, true, true, true, true, true, true, true, true, true, true, true, true, true, true, false] HT_.out ?_
              refine pstep 18 (some 2) #[true, true, true, true, true, true, true, true, true, true, true, true, true, true, true, true, true, true, true] HT_.out ?_
              refine done_ (done_of HT_.out (by kernel_rfl)) ?_
              try go_wp2
              go_ret
              exact ⟨by first | rfl | (simp [errW_none, errW_some] <;> rfl) | (simp [*, errW_none, errW_some] <;> rfl), by repeat (first | (with_reducible first | exact HB.out | apply below_alloc | apply pw_below_drewN | apply below_drew1) | exact HB.out)⟩
             ·rw [if_neg c48] at H
              have c48b0 : (((rd_T33 t219 0).f3) == (wrap64 (1 - ((rd_T33 t228 0).f3)))) = false := beq_eq_false_iff_ne.mpr c48
              have c48b1 : (((rd_T33 t219 0).f3) != (wrap64 (1 - ((rd_T33 t228 0).f3)))) = true := bne_iff_ne.mpr c48
              obtain rfl := Option.some.inj H
              obtain ⟨Ao54, co54, eo54⟩ := Kd.R_slice HO_3.out
              subst eo54
              try go_wp2
              have n0_ := Aside0.mk (Kd.R_drew HO_3.out)
              have n1_ := Aside0.mk (Kd.R_drew HO_5.out)
              have n2_ := Aside0.mk (below_drew1 HB.out)
              clear HO_3
              clear HO_5
              clear HB
              have HO_3 := n0_
              have HO_5 := n1_
              have HB := n2_
              clear n0_ n1_ n2_
              have p238 : 0 ≤ (0 : Int) := (by omega)
              have q238 : 0 < (t219.length : Int) := of_decide_eq_true (by first | (with_reducible assumption) | assumption)
              obtain ⟨ad238, e238, hx238_0, hx238_1, hx238_2, hx238_3, hx238_4, hx238_5, hx238_6⟩ := at_T33 (Kd.R_reads' HO_3.out).2.2 0 p238 q238
              cases e238
              have qi238 : (0 < t219.length) = True := eq_true (by omega)
              (try rw [show ((0 : Int)).toNat = 0 from rfl] at hx238_0)
              (try rw [show 0 * 7 = 0 from rfl] at hx238_0)
              (try rw [Addr.add_zero'] at hx238_0)
              (try rw [show ((0 : Int)).toNat = 0 from rfl] at hx238_1)
              (try rw [show 0 * 7 = 0 from rfl] at hx238_1)
              (try rw [Addr.add_zero'] at hx238_1)
              (try rw [show ((0 : Int)).toNat = 0 from rfl] at hx238_2)
              (try rw [show 0 * 7 = 0 from rfl] at hx238_2)
              (try rw [Addr.add_zero'] at hx238_2)
              (try rw [show ((0 : Int)).toNat = 0 from rfl] at hx238_3)
              (try rw [show 0 * 7 = 0 from rfl] at hx238_3)
              (try rw [Addr.add_zero'] at hx238_3)
              (try rw [show ((0 : Int)).toNat = 0 from rfl] at hx238_4)
              (try rw [show 0 * 7 = 0 from rfl] at hx238_4)
              (try rw [Addr.add_zero'] at hx238_4)
              (try rw [show ((0 : Int)).toNat = 0 from rfl] at hx238_5)
              (try rw [show 0 * 7 = 0 from rfl] at hx238_5)
              (try rw [Addr.add_zero'] at hx238_5)
              (try rw [show ((0 : Int)).toNat = 0 from rfl] at hx238_6)
              (try rw [show 0 * 7 = 0 from rfl] at hx238_6)
              (try rw [Addr.add_zero'] at hx238_6)
              replace p238 := eq_true p238
              replace q238 := eq_true q238
              obtain ⟨Ao56, co56, eo56⟩ := Kd.R_slice HO_5.out
              (first | subst eo56 | (injection eo56 with f1_ f2_ f3_; have f4_ := f1_.symm; have f5_ := f3_.symm; clear f1_ f2_ f3_; subst f4_; subst f5_))
              have p239 : 0 ≤ (0 : Int) := (by omega)
              have q239 : 0 < (t228.length : Int) := of_decide_eq_true (by first | (with_reducible assumption) | assumption)
              obtain ⟨ad239, e239, hx239_0, hx239_1, hx239_2, hx239_3, hx239_4, hx239_5, hx239_6⟩ := at_T33 (Kd.R_reads' HO_5.out).2.2 0 p239 q239
              cases e239
              have qi239 : (0 < t228.length) = True := eq_true (by omega)
              (try rw [show ((0 : Int)).toNat = 0 from rfl] at hx239_0)
              (try rw [show 0 * 7 = 0 from rfl] at hx239_0)
              (try rw [Addr.add_zero'] at hx239_0)
              (try rw [show ((0 : Int)).toNat = 0 from rfl] at hx239_1)
              (try rw [show 0 * 7 = 0 from rfl] at hx239_1)
              (try rw [Addr.add_zero'] at hx239_1)
              (try rw [show ((0 : Int)).toNat = 0 from rfl] at hx239_2)
              (try rw [show 0 * 7 = 0 from rfl] at hx239_2)
              (try rw [Addr.add_zero'] at hx239_2)
              (try rw [show ((0 : Int)).toNat = 0 from rfl] at hx239_3)
              (try rw [show 0 * 7 = 0 from rfl] at hx239_3)
              (try rw [Addr.add_zero'] at hx239_3)
              (try rw [show ((0 : Int)).toNat = 0 from rfl] at hx239_4)
              (try rw [show 0 * 7 = 0 from rfl] at hx239_4)
              (try rw [Addr.add_zero'] at hx239_4)
              (try rw [show ((0 : Int)).toNat = 0 from rfl] at hx239_5)
              (try rw [show 0 * 7 = 0 from rfl] at hx239_5)
              (try rw [Addr.add_zero'] at hx239_5)
              (try rw [show ((0 : Int)).toNat = 0 from rfl] at hx239_6)
              (try rw [show 0 * 7 = 0 from rfl] at hx239_6)
              (try rw [Addr.add_zero'] at hx239_6)
              replace p239 := eq_true p239
              replace q239 := eq_true q239
              refine start_ (n := 19) (S := fun w' => w'.cell? ad238 = some (.int .i64 ((rd_T33 t219 0).f0)) ∧ w'.cell? ⟨ad238.block, ad238.off + 1, none⟩ = some (.int .i64 ((rd_T33 t219 0).f1)) ∧ w'.cell? ⟨ad238.block, ad238.off + 2, none⟩ = some (.int .i64 ((rd_T33 t219 0).f2)) ∧ w'.cell? ⟨ad238.block, ad238.off + 3, none⟩ = some (.int .i64 ((rd_T33 t219 0).f3)) ∧ w'.cell? ⟨ad238.block, ad238.off + 4, none⟩ = some (.int .i64 ((rd_T33 t219 0).f4)) ∧ w'.cell? ⟨ad238.block, ad238.off + 5, none⟩ = some (.string ((rd_T33 t219 0).f5)) ∧ w'.cell? ⟨ad238.block, ad238.off + 6, none⟩ = some (.int .i64 ((rd_T33 t219 0).f6)) ∧ w'.cell? ad239 = some (.int .i64 ((rd_T33 t228 0).f0)) ∧ w'.cell? ⟨ad239.block, ad239.off + 1, none⟩ = some (.int .i64 ((rd_T33 t228 0).f1)) ∧ w'.cell? ⟨ad239.block, ad239.off + 2, none⟩ = some (.int .i64 ((rd_T33 t228 0).f2)) ∧ w'.cell? ⟨ad239.block, ad239.off + 3, none⟩ = some (.int .i64 ((rd_T33 t228 0).f3)) ∧ w'.cell? ⟨ad239.block, ad239.off + 4, none⟩ = some (.int .i64 ((rd_T33 t228 0).f4)) ∧ w'.cell? ⟨ad239.block, ad239.off + 5, none⟩ = some (.string ((rd_T33 t228 0).f5)) ∧ w'.cell? ⟨ad239.block, ad239.off + 6, none⟩ = some (.int .i64 ((rd_T33 t228 0).f6))) (ds := []) #[false, false, false, false, false, false, false, false, false, false, false, false, false, false, false, false, false, false, false] (by kernel_rfl) rfl rfl ⟨hx238_0, hx238_1, hx238_2, hx238_3, hx238_4, hx238_5, hx238_6, hx239_0, hx239_1, hx239_2, hx239_3, hx239_4, hx239_5, hx239_6⟩ (fun hHeld => ?_); refine with_tabW signalbenchlaw16_NrziInverts.tab13 signalbenchlaw16_NrziInverts.bits13 (fun HT_ HW_ => ?_)
              generalize wr.drew = w55 at HO_3 HO_5 HB hx238_0 hx238_1 hx238_2 hx238_3 hx238_4 hx238_5 hx238_6 hx239_0 hx239_1 hx239_2 hx239_3 hx239_4 hx239_5 hx239_6 hHeld ⊢
              refine pstep 0 (some 48) #[true, false, false, false, false, false, false, false, false, false, false, false, false, false, false, false, false, false, false] HT_.out ?_
              refine pstep 1 (some 49) #[true, true, false, false, false, false, false, false, false, false, false, false, false, false, false, false, false, false, false] HT_.out ?_
              refine pstep 2 (some 50) #[true, true, true, false, false, false, false, false, false, false, false, false, false, false, false, false, false, false, false] HT_.out ?_
              refine pstep 3 (some 51) #[true, true, true, true, false, false, false, false, false, false, false, false, false, false, false, false, false, false, false] HT_.out ?_
              refine pstep 4 (some 52) #[true, true, true, true, true, false, false, false, false, false, false, false, false, false, false, false, false, false, false] HT_.out ?_
              refine pstep 5 (some 53) #[true, true, true, true, true, true, false, false, false, false, false, false, false, false, false, false, false, false, false] HT_.out ?_
              refine pstep 6 (some 54) #[true, true, true, true, true, true, true, false, false, false, false, false, false, false, false, false, false, false, false] HT_.out ?_
              refine pstep 8 (some 56) #[true, true, true, true, true, true, true, false, true, false, false, false, false, false, false, false, false, false, false] HT_.out ?_
              refine pstep 9 (some 57) #[true, true, true, true, true, true, true, false, true, true, false, false, false, false, false, false, false, false, false] HT_.out ?_
              refine pstep 10 (some 58) #[true, true, true, true, true, true, true, false, true, true, true, false, false, false, false, false, false, false, false] HT_.out ?_
              refine take_ (i := 7) (N := some 55) (v := ?_) (a' := ?_) #[true, true, true, true, true, true, true, true, true, true, true, false, false, false, false, false, false, false, false] rfl rfl (take_ofW HT_.out HW_.out (by kernel_rfl)) (fun _ _ _ h => h) (Or.inl ⟨by rfl, ?_⟩) hHeld ?_ ?_
              rotate_left
              ·rintro w' ⟨s0, s1, s2, s3, s4, s5, s6, s7, s8, s9, s10, s11, s12, s13⟩
               go_simp
               with_reducible rfl
              rotate_left
              ·simp only [Act.put, nrm]
               rfl
              refine take_ (i := 11) (N := some 59) (v := ?_) (a' := ?_) #[true, true, true, true, true, true, true, true, true, true, true, true, false, false, false, false, false, false, false] rfl rfl (take_ofW HT_.out HW_.out (by kernel_rfl)) (fun _ _ _ h => h) (Or.inl ⟨by rfl, ?_⟩) hHeld ?_ ?_
              rotate_left
              ·rintro w' ⟨s0, s1, s2, s3, s4, s5, s6, s7, s8, s9, s10, s11, s12, s13⟩
               go_simp
               with_reducible rfl
              rotate_left
              ·simp only [Act.put, nrm]
               rfl
              refine pstep 12 (some 60) #[true, true, true, true, true, true, true, true, true, true, true, true, true, false, false, false, false, false, false] HT_.out ?_
              refine pstep 13 (some 61) #[true, true, true, true, true, true, true, true, true, true, true, true, true, true, false, false, false, false, false] HT_.out ?_
              refine pstep 14 (some 62) #[true, true, true, true, true, true, true, true, true, true, true, true, true, true, true, false, false, false, false] HT_.out ?_
              refine pstep 15 (some 63) #[true, true, true, true, true, true, true, true, true, true, true, true, true, true, true, true, false, false, false] HT_.out ?_
              refine pure_ (i := 16) (N := some 64) (v := undef) (a' := ?_) #[true, true, true, true, true, true, true, true, true, true, true, true, true, true, true, true, true, false, false] rfl rfl (any_of HT_.out (by kernel_rfl)) (fun _ _ _ h => h) (Or.inr ⟨by rfl, rfl⟩) ?_ ?_
              rotate_left
              ·simp only [Act.put, nrm]
               rfl
              refine pstep 17 (some 65) #[true, true, true, true, true, true, true, true, true, true, true, true, true, true, true, true, true, true, false] HT_.out ?_
              refine pstep 18 (some 2) #[true, true, true, true, true, true, true, true, true, true, true, true, true, true, true, true, true, true, true] HT_.out ?_
              refine done_ (done_of HT_.out (by kernel_rfl)) ?_
              try go_wp2
              go_ret
              exact ⟨by first | rfl | (simp [errW_none, errW_some] <;> rfl) | (simp [*, errW_none, errW_some] <;> rfl), by repeat (first | (with_reducible first | exact HB.out | apply below_alloc | apply pw_below_drewN | apply below_drew1) | exact HB.out)⟩
            ·rw [if_neg c47] at H
             exact absurd H (by simp)
           ·rw [if_neg c46] at H
            exact absurd H (by simp)

/-- THE ONE PURE STATEMENT of signalbenchlaw16_NrziInverts: yours. -/
def signalbenchlaw16_NrziInverts.Pure : Prop := ∀ (l0 : List (S33)), l0.length ≤ maxLen → l0.length * 64 ≤ 140737488351232 → (∀ x ∈ l0, (Lit.int .i64 x.f0).wf = true ∧ (Lit.int .i64 x.f1).wf = true ∧ (Lit.int .i64 x.f2).wf = true ∧ (Lit.int .i64 x.f3).wf = true ∧ (Lit.int .i64 x.f4).wf = true ∧ x.f5.size ≤ 140737488351232 ∧ (Lit.int .i64 x.f6).wf = true) → ∃ k, signalbenchlaw16_NrziInverts.f k l0 = some true
theorem signalbenchlaw16_NrziInverts.walk (P : signalbenchlaw16_NrziInverts.Pure) (A0 : Option Addr) (c0 : Nat) (l0 : List (S33)) (w : World) (hr0 : Kd.C k33 w A0 l0.length l0) (hc0 : l0.length ≤ c0) (w0_ : l0.length ≤ maxLen) (w1_ : l0.length * 64 ≤ 140737488351232) (w2_ : (∀ x ∈ l0, (Lit.int .i64 x.f0).wf = true ∧ (Lit.int .i64 x.f1).wf = true ∧ (Lit.int .i64 x.f2).wf = true ∧ (Lit.int .i64 x.f3).wf = true ∧ (Lit.int .i64 x.f4).wf = true ∧ x.f5.size ≤ 140737488351232 ∧ (Lit.int .i64 x.f6).wf = true)) :
  Calls Try.prog 5 #[.slice A0 l0.length c0] w fun e w' => e = .returned (.bool true) ∧ Below w.heap.size w w' := by
 obtain ⟨k, h⟩ := P l0 w0_ w1_ w2_
 refine (signalbenchlaw16_NrziInverts.calls k A0 c0 l0 true w hr0 hc0 h).mono ?_
 rintro e w' ⟨rfl, hd⟩
 exact ⟨rfl, hd⟩

end Go.Proofs.Ytjgfhccibljkbaa.PNrziInverts
