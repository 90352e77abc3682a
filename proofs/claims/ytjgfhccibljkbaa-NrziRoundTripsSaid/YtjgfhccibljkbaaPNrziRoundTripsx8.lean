-- Written by a program of this session (wip/tools/pr.py), which calls the kit's print with changes of its own.
import Derived.Test.YtjgfhccibljkbaaPNrziRoundTripsx0
import Derived.Test.YtjgfhccibljkbaaPNrziRoundTripsx4
import Derived.Test.YtjgfhccibljkbaaPNrziRoundTripsx5
import Derived.Test.YtjgfhccibljkbaaPNrziRoundTripsx6
import Derived.Test.YtjgfhccibljkbaaPNrziRoundTripsx7
namespace Go.Proofs.Ytjgfhccibljkbaa.PNrziRoundTrips
open Go.RowKit Go.Proofs.YtjgfhccibljkbaaW.PrintWords Go.Proofs.YtjgfhccibljkbaaW.PrintLast Go.Proofs.YtjgfhccibljkbaaW.PrintMore
attribute [local go_sem] max2_int min2_int max_two min_two max_three min_three max_four min_four   -- for this text's walks alone
set_option linter.unusedVariables false
set_option linter.unusedSimpArgs false

/-! ### signalbenchlaw16_NrziRoundTrips: function 4 -/
mutual
def signalbenchlaw16_NrziRoundTrips.j0 : Nat → List (S44) → Bool → Option (Bool)
 | 0, _, _ => none
 | k + 1, x1, x214000 => (nrzi_Encode.f k x214000 x1).bind fun bt216 => (if bt216.2 = 0 then (signalbenchlaw16_NrziRoundTrips.j1 k x1 bt216.1 x214000) else (if (bt216.1.length : Int) = 0 then ((signalbenchlaw16_awake.f k).bind fun t220 => (some t220)) else (some false)))
def signalbenchlaw16_NrziRoundTrips.j1 : Nat → List (S44) → List (S44) → Bool → Option (Bool)
 | 0, _, _, _ => none
 | k + 1, x1, x5, x214000 => signalbenchlaw16_NrziRoundTrips.l0 k x1 x5 (([] : List (S44))) 0 x214000
def signalbenchlaw16_NrziRoundTrips.l0 : Nat → List (S44) → List (S44) → List (S44) → Int → Bool → Option (Bool)
 | 0, _, _, _, _, _ => none
 | k + 1, x1, x5, x7, x8, x214000 => if x8 < (x1.length : Int) then (if 0 ≤ x8 then (if x7.length < 2932031007402 then (signalbenchlaw16_NrziRoundTrips.l0 k x1 x5 (x7 ++ [(⟨(rd_T44 x1 x8).f0, 0, 0, (rd_T44 x1 x8).f3, 0⟩ : S44)]) (wrap64 (x8 + 1)) x214000) else (none)) else (none)) else ((signalbenchlaw16_ideal.f k x5).bind fun t229 => ((nrzi_Decode.f k x214000 t229).bind fun t232 => ((signalbenchlaw16_ideal.f k x7).bind fun t235 => ((signalbenchref07_Same.f k t232 t235).bind fun t238 => (if t238 = true then ((signalbenchlaw16_awake.f k).bind fun t239 => (some t239)) else (some false))))))
end
def signalbenchlaw16_NrziRoundTrips.f (k : Nat) (a0_0 : Bool) (l1 : List (S44)) : Option (Bool) := (signalbenchlaw16_tiny.f k l1).bind fun t214 => (if t214 = true then (signalbenchlaw16_NrziRoundTrips.j0 k l1 a0_0) else ((signalbenchlaw16_awake.f k).bind fun t215 => (some t215)))
theorem signalbenchlaw16_NrziRoundTrips.mono_l : ∀ k, (∀ y0 y1, LeO (signalbenchlaw16_NrziRoundTrips.j0 k y0 y1) (signalbenchlaw16_NrziRoundTrips.j0 (k + 1) y0 y1)) ∧ (∀ y0 y1 y2, LeO (signalbenchlaw16_NrziRoundTrips.j1 k y0 y1 y2) (signalbenchlaw16_NrziRoundTrips.j1 (k + 1) y0 y1 y2)) ∧ (∀ y0 y1 y2 y3 y4, LeO (signalbenchlaw16_NrziRoundTrips.l0 k y0 y1 y2 y3 y4) (signalbenchlaw16_NrziRoundTrips.l0 (k + 1) y0 y1 y2 y3 y4))
 | 0 => ⟨fun _ _ r h => by simp [signalbenchlaw16_NrziRoundTrips.j0] at h, fun _ _ _ r h => by simp [signalbenchlaw16_NrziRoundTrips.j1] at h, fun _ _ _ _ _ r h => by simp [signalbenchlaw16_NrziRoundTrips.l0] at h⟩
 | k + 1 => by
  obtain ⟨ih0, ih1, ih2⟩ := signalbenchlaw16_NrziRoundTrips.mono_l k
  refine ⟨?_, ?_, ?_⟩
  ·intro y0 y1
   unfold signalbenchlaw16_NrziRoundTrips.j0
   repeat' first
   | (with_reducible exact ih0 _ _)
   | (with_reducible exact ih1 _ _ _)
   | (with_reducible exact ih2 _ _ _ _ _)
   | (with_reducible exact nrzi_Decode.mono _ _ _)
   | (with_reducible exact nrzi_Encode.mono _ _ _)
   | (with_reducible exact signalbenchlaw16_awake.mono _)
   | (with_reducible exact signalbenchlaw16_ideal.mono _ _)
   | (with_reducible exact signalbenchlaw16_tiny.mono _ _)
   | (with_reducible exact signalbenchref07_Same.mono _ _ _)
   | (with_reducible exact LeO.refl _)
   | (with_reducible exact LeO.none _)
   | (with_reducible refine LeO.ite ?_ ?_)
   | (with_reducible refine LeO.bind ?_ (fun _ => ?_))
   | exact ih0 _ _
   | exact ih1 _ _ _
   | exact ih2 _ _ _ _ _
   | exact nrzi_Decode.mono _ _ _
   | exact nrzi_Encode.mono _ _ _
   | exact signalbenchlaw16_awake.mono _
   | exact signalbenchlaw16_ideal.mono _ _
   | exact signalbenchlaw16_tiny.mono _ _
   | exact signalbenchref07_Same.mono _ _ _
   | exact LeO.none _
   | refine LeO.ite ?_ ?_
   | refine LeO.bind ?_ (fun _ => ?_)
  ·intro y0 y1 y2
   unfold signalbenchlaw16_NrziRoundTrips.j1
   repeat' first
   | (with_reducible exact ih0 _ _)
   | (with_reducible exact ih1 _ _ _)
   | (with_reducible exact ih2 _ _ _ _ _)
   | (with_reducible exact nrzi_Decode.mono _ _ _)
   | (with_reducible exact nrzi_Encode.mono _ _ _)
   | (with_reducible exact signalbenchlaw16_awake.mono _)
   | (with_reducible exact signalbenchlaw16_ideal.mono _ _)
   | (with_reducible exact signalbenchlaw16_tiny.mono _ _)
   | (with_reducible exact signalbenchref07_Same.mono _ _ _)
   | (with_reducible exact LeO.refl _)
   | (with_reducible exact LeO.none _)
   | (with_reducible refine LeO.ite ?_ ?_)
   | (with_reducible refine LeO.bind ?_ (fun _ => ?_))
   | exact ih0 _ _
   | exact ih1 _ _ _
   | exact ih2 _ _ _ _ _
   | exact nrzi_Decode.mono _ _ _
   | exact nrzi_Encode.mono _ _ _
   | exact signalbenchlaw16_awake.mono _
   | exact signalbenchlaw16_ideal.mono _ _
   | exact signalbenchlaw16_tiny.mono _ _
   | exact signalbenchref07_Same.mono _ _ _
   | exact LeO.none _
   | refine LeO.ite ?_ ?_
   | refine LeO.bind ?_ (fun _ => ?_)
  ·intro y0 y1 y2 y3 y4
   unfold signalbenchlaw16_NrziRoundTrips.l0
   repeat' first
   | (with_reducible exact ih0 _ _)
   | (with_reducible exact ih1 _ _ _)
   | (with_reducible exact ih2 _ _ _ _ _)
   | (with_reducible exact nrzi_Decode.mono _ _ _)
   | (with_reducible exact nrzi_Encode.mono _ _ _)
   | (with_reducible exact signalbenchlaw16_awake.mono _)
   | (with_reducible exact signalbenchlaw16_ideal.mono _ _)
   | (with_reducible exact signalbenchlaw16_tiny.mono _ _)
   | (with_reducible exact signalbenchref07_Same.mono _ _ _)
   | (with_reducible exact LeO.refl _)
   | (with_reducible exact LeO.none _)
   | (with_reducible refine LeO.ite ?_ ?_)
   | (with_reducible refine LeO.bind ?_ (fun _ => ?_))
   | exact ih0 _ _
   | exact ih1 _ _ _
   | exact ih2 _ _ _ _ _
   | exact nrzi_Decode.mono _ _ _
   | exact nrzi_Encode.mono _ _ _
   | exact signalbenchlaw16_awake.mono _
   | exact signalbenchlaw16_ideal.mono _ _
   | exact signalbenchlaw16_tiny.mono _ _
   | exact signalbenchref07_Same.mono _ _ _
   | exact LeO.none _
   | refine LeO.ite ?_ ?_
   | refine LeO.bind ?_ (fun _ => ?_)
theorem signalbenchlaw16_NrziRoundTrips.mono : ∀ a0 a1 k, LeO (signalbenchlaw16_NrziRoundTrips.f k a0 a1) (signalbenchlaw16_NrziRoundTrips.f (k + 1) a0 a1) := by
 intro a0 a1 k
 obtain ⟨ih0, ih1, ih2⟩ := signalbenchlaw16_NrziRoundTrips.mono_l k
 unfold signalbenchlaw16_NrziRoundTrips.f
 repeat' first
   | (with_reducible exact ih0 _ _)
   | (with_reducible exact ih1 _ _ _)
   | (with_reducible exact ih2 _ _ _ _ _)
   | (with_reducible exact nrzi_Decode.mono _ _ _)
   | (with_reducible exact nrzi_Encode.mono _ _ _)
   | (with_reducible exact signalbenchlaw16_awake.mono _)
   | (with_reducible exact signalbenchlaw16_ideal.mono _ _)
   | (with_reducible exact signalbenchlaw16_tiny.mono _ _)
   | (with_reducible exact signalbenchref07_Same.mono _ _ _)
   | (with_reducible exact LeO.refl _)
   | (with_reducible exact LeO.none _)
   | (with_reducible refine LeO.ite ?_ ?_)
   | (with_reducible refine LeO.bind ?_ (fun _ => ?_))
   | exact ih0 _ _
   | exact ih1 _ _ _
   | exact ih2 _ _ _ _ _
   | exact nrzi_Decode.mono _ _ _
   | exact nrzi_Encode.mono _ _ _
   | exact signalbenchlaw16_awake.mono _
   | exact signalbenchlaw16_ideal.mono _ _
   | exact signalbenchlaw16_tiny.mono _ _
   | exact signalbenchref07_Same.mono _ _ _
   | exact LeO.none _
   | refine LeO.ite ?_ ?_
   | refine LeO.bind ?_ (fun _ => ?_)
def signalbenchlaw16_NrziRoundTrips.T10 : Bool × List (List Nat × List Nat) := (true, [([], []), ([], []), ([], []), ([1, 2], [1, 2]), ([3], [3]), ([4], [4]), ([], []), ([], []), ([6, 7], [6, 7]), ([8], [8]), ([9], [9]), ([5, 10], [5, 10]), ([11], [11]), ([0, 12], [0, 12]), ([13, 13, 0, 1, 2, 3, 4, 5, 6, 7, 8, 9, 10, 11, 12, 13], [0, 13])])
def signalbenchlaw16_NrziRoundTrips.B10 : List Nat := [0, 0, 0, 6, 14, 30, 0, 0, 192, 448, 960, 2046, 4094, 8191, 16383]
theorem signalbenchlaw16_NrziRoundTrips.tab10 : rtab .any (opsOf Try.f4 10) = signalbenchlaw16_NrziRoundTrips.T10 := by kernel_rfl
theorem signalbenchlaw16_NrziRoundTrips.bits10 : waitsOk signalbenchlaw16_NrziRoundTrips.T10.2 signalbenchlaw16_NrziRoundTrips.B10 = true := by kernel_rfl
def signalbenchlaw16_NrziRoundTrips.T11 : Bool × List (List Nat × List Nat) := (true, [([], []), ([], []), ([1], [1]), ([0, 2, 2], [0, 2]), ([], []), ([4, 3], [4]), ([3, 5, 5], [3, 5]), ([6, 6], [6]), ([7, 7], [7]), ([7, 8], [7, 8]), ([9, 8, 0, 1, 2, 3, 4, 5, 6, 7, 8, 9], [9])])
def signalbenchlaw16_NrziRoundTrips.B11 : List Nat := [0, 0, 2, 7, 0, 31, 63, 127, 255, 511, 1023]
theorem signalbenchlaw16_NrziRoundTrips.tab11 : rtab .any (opsOf Try.f4 11) = signalbenchlaw16_NrziRoundTrips.T11 := by kernel_rfl
theorem signalbenchlaw16_NrziRoundTrips.bits11 : waitsOk signalbenchlaw16_NrziRoundTrips.T11.2 signalbenchlaw16_NrziRoundTrips.B11 = true := by kernel_rfl
set_option maxHeartbeats 8000000 in
set_option maxRecDepth 100000 in
theorem signalbenchlaw16_NrziRoundTrips.calls (k : Nat) (a0_0 : Bool) (A1 : Option Addr) (c1 : Nat) (l1 : List (S44)) (r : Bool) (w : World) (hr1 : Kd.C k44 w A1 l1.length l1) (hc1 : l1.length ≤ c1) (h : signalbenchlaw16_NrziRoundTrips.f k a0_0 l1 = some r) :
  Calls Try.prog 4 #[.agg #[.bool a0_0], .slice A1 l1.length c1] w fun e w' => e = .returned (.bool r) ∧ Below w.heap.size w w' := by
 have hu23 := Try.underlying23
 have hu44 := Try.underlying44
 have HR1 := Aside0.mk hr1
 have HC1 := Aside0.mk hc1
 clear hr1 hc1
 have HB := Aside0.mk (Below.refl w.heap.size w)
 have H : ((signalbenchlaw16_tiny.f k l1).bind fun t214 => (if t214 = true then (signalbenchlaw16_NrziRoundTrips.j0 k l1 a0_0) else ((signalbenchlaw16_awake.f k).bind fun t215 => (some t215)))) = some r := h
 clear h
 replace H := Option.bind_eq_some_iff.mp H
 obtain ⟨t214, A30, H⟩ := H
 replace H : (if t214 = true then (signalbenchlaw16_NrziRoundTrips.j0 k l1 a0_0) else ((signalbenchlaw16_awake.f k).bind fun t215 => (some t215))) = some r := H
 have A3 := Aside0.mk A30
 clear A30
 have HC4 := Aside0.mk H
 clear H
 go_enter Try.func4, Try.ntmps4
 go_upto_if 11 with (first | ((with_reducible refine gate_dst (N := 2) rfl ?_); refine box_event ?hg (N := 2) ?hd (cs := #[.bool a0_0]) (t := 23) ?hr ?_; (case hd => rfl); (case hg => rfl); (case hr => first | (go_simp; done) | (go_simp; rfl)); intro gb213 hg w5 hbox hb; have n0_ := Aside0.mk (below_step (hbw HB.out) hb); have n1_ := Aside0.mk (hbox); have n2_ := Aside0.mk ((by rw [hg]; exact (below_size (hbw HB.out)) : w.heap.size ≤ gb213)); have n3_ := Aside0.mk ((by rw [hg]; exact (below_size (hbw HB.out)) : w.heap.size ≤ gb213)); clear HB; have HB := n0_; have BK213 := n1_; have GW213 := n2_; have GE213 := n3_; clear n0_ n1_ n2_ n3_; clear hb hbox hg) | ((with_reducible refine gate_callee (f := 19) rfl ?_); refine goesL_ (some 10) rfl rfl Try.func19 (by kernel_rfl) rfl #[.slice A1 l1.length c1] rfl (by (try simp only [List.map_toArray, List.map_cons, List.map_nil]); first | done | rfl | (simp only [List.length_drop, List.length_take]; rfl)) ?_; (with_reducible refine (signalbenchlaw16_tiny.calls k _ _ l1 t214 _ ?side1 ?side2 A3.out).mono ?_); (case side1 => repeat (first | exact (Kd.C_below HR1.out HB.out) | (with_reducible refine Kd.C_alloc ?_ _) | (with_reducible refine Kd.C_drewN ?_ _) | (with_reducible refine Kd.C_drew ?_))); (case side2 => exact HC1.out); rintro e w' ⟨rfl, ⟨nd, rfl⟩⟩; refine ⟨_, rfl, ?_⟩))
 (try simp only [Act.put, List.setIfInBounds_toArray, List.set_cons_zero, List.set_cons_succ])
 go_cut [] (fun wc => ∃ (kq : Nat), Aside0 (signalbenchlaw16_NrziRoundTrips.j0 kq l1 a0_0 = some r) ∧ Aside0 (kq ≤ k) ∧ Aside0 (wc.heap[gb213]? = some (.cells #[.bool a0_0] 23 (0, 0))) ∧ Aside0 (Below w.heap.size w wc))
 case first =>
  have H := HC4.out
  clear HC4
  by_cases c6 : t214 = true
  ·subst c6
   have H1 : (signalbenchlaw16_NrziRoundTrips.j0 k l1 a0_0) = some r := by rw [if_pos rfl] at H; exact H
   clear H
   have H := H1
   clear H1
   have H' := Aside0.mk H
   clear H
   go_wp2
   go_meet
   case rel => exact ⟨_, H', ⟨by first | omega | exact Nat.le_refl _⟩, ⟨by (with_reducible repeat (first | refine blk_drewN ?_ _ | refine blk_drew ?_ | refine blk_alloc ?_ _)); exact BK213.out⟩, ⟨by repeat (first | (with_reducible first | exact HB.out | apply below_alloc | apply pw_below_drewN | apply below_drew1 | refine below_set ?_ GE213.out) | exact HB.out)⟩⟩
  ·replace c6 := Bool.eq_false_iff.mpr c6
   subst c6
   have H1 : ((signalbenchlaw16_awake.f k).bind fun t215 => (some t215)) = some r := by rw [if_neg (show ¬ (false = true) by decide)] at H; exact H
   clear H
   have H := H1
   clear H1
   replace H := Option.bind_eq_some_iff.mp H
   obtain ⟨t215, A70, H⟩ := H
   replace H : (some t215) = some r := H
   have A7 := Aside0.mk A70
   clear A70
   obtain rfl := Option.some.inj H
   go_wp2_with (first | ((with_reducible refine gate_callee (f := 9) rfl ?_); refine goesL_ (some 12) rfl rfl Try.func9 (by kernel_rfl) rfl #[] rfl (by (try simp only [List.map_toArray, List.map_cons, List.map_nil]); first | done | rfl | (simp only [List.length_drop, List.length_take]; rfl)) ?_; (with_reducible refine (signalbenchlaw16_awake.calls k  t215 _ A7.out).mono ?_); rintro e w8 ⟨rfl, hb⟩; refine ⟨_, rfl, ?_⟩; have n0_ := Aside0.mk (blkb BK213.out hb); have n1_ := Aside0.mk (below_step (hbw HB.out) hb); clear BK213; clear HB; have BK213 := n0_; have HB := n1_; clear n0_ n1_; (try clear hb); (try clear hb2); (try clear hk); (try clear hi)))
   go_ret
   exact ⟨by first | rfl | (simp [errW_none, errW_some] <;> rfl) | (simp [*, errW_none, errW_some] <;> rfl), by repeat (first | (with_reducible first | exact HB.out | apply below_alloc | apply pw_below_drewN | apply below_drew1 | refine below_set ?_ GE213.out) | exact HB.out)⟩
 case rest =>
  clear HC4
  try clear c1
  try clear p2
  try clear c4
  try clear c6
  obtain ⟨kq, HA, HJ3, BK213, HB⟩ := hcut
  cases kq with
  | zero => exact absurd HA.out (by simp [signalbenchlaw16_NrziRoundTrips.j0])
  | succ kj3 =>
   have H := HA.out
   clear HA
   simp only [signalbenchlaw16_NrziRoundTrips.j0] at H
   replace H := Option.bind_eq_some_iff.mp H
   obtain ⟨⟨t216, t219⟩, A90, H⟩ := H
   replace H : (if t219 = 0 then (signalbenchlaw16_NrziRoundTrips.j1 kj3 l1 t216 a0_0) else (if (t216.length : Int) = 0 then ((signalbenchlaw16_awake.f kj3).bind fun t220 => (some t220)) else (some false))) = some r := H
   have A9 := Aside0.mk A90
   clear A90
   have HC10 := Aside0.mk H
   clear H
   have hcz11_0 : wc.cell? ⟨gb213, 0, none⟩ = some (.bool a0_0) := (blk_cell BK213.out 0).trans rfl
   have hfz11_0 := blk_frozen BK213.out 0
   go_upto_if 20 with (first | ((with_reducible refine gate_callee (f := 20) rfl ?_); refine goesL_ (some 16) rfl rfl Try.func20 (by kernel_rfl) rfl #[.agg #[.bool a0_0], .slice A1 l1.length c1] rfl (by (try simp only [List.map_toArray, List.map_cons, List.map_nil]); first | done | rfl | (simp only [List.length_drop, List.length_take]; rfl)) ?_; (with_reducible refine (nrzi_Encode.calls kj3 a0_0 _ _ l1 t216 t219 _ ?side1 ?side2 A9.out).mono ?_); (case side1 => repeat (first | exact (Kd.C_below HR1.out HB.out) | (with_reducible refine Kd.C_alloc ?_ _) | (with_reducible refine Kd.C_drewN ?_ _) | (with_reducible refine Kd.C_drew ?_))); (case side2 => exact HC1.out); rintro e w12 ⟨v217, rfl, ho0, hb⟩; refine ⟨_, rfl, ?_⟩; have n0_ := Aside0.mk (Kd.R_lower ho0 (below_size (hbw HB.out))); have n1_ := Aside0.mk (blkb BK213.out hb); have n2_ := Aside0.mk (below_step (hbw HB.out) hb); clear BK213; clear HB; have HO218 := n0_; have BK213 := n1_; have HB := n2_; clear n0_ n1_ n2_; (try clear hb); (try clear hb2); (try clear hk); (try clear hi); (try clear ho0)))
   (try simp only [Act.put, List.setIfInBounds_toArray, List.set_cons_zero, List.set_cons_succ])
   go_cut [] (fun wc => ∃ (kq : Nat), Aside0 (signalbenchlaw16_NrziRoundTrips.j1 kq l1 t216 a0_0 = some r) ∧ Aside0 (kq ≤ kj3) ∧ Aside0 (Kd.R k44 44 wc w.heap.size (fun _ => True) v217 t216) ∧ Aside0 (wc.heap[gb213]? = some (.cells #[.bool a0_0] 23 (0, 0))) ∧ Aside0 (Below w.heap.size w wc))
   case first =>
    have H := HC10.out
    clear HC10
    by_cases c13 : t219 = 0
    ·rw [if_pos c13] at H
     have c13b0 : (t219 == 0) = true := beq_iff_eq.mpr c13
     have c13b1 : (t219 != 0) = false := bne_eq_false_iff_eq.mpr c13
     clear c13
     (first | rw [c13b0] | (simp only [i64_w, i32_w]; rw [c13b0]) | skip)
     have H' := Aside0.mk H
     clear H
     go_wp2
     go_meet
     case rel => exact ⟨_, H', ⟨by have := HJ3.out; first | omega | exact Nat.le_refl _⟩, ⟨by (with_reducible repeat (first | apply Kd.R_alloc | apply Kd.R_drewN | apply Kd.R_drew)); exact HO218.out⟩, ⟨by (with_reducible repeat (first | refine blk_drewN ?_ _ | refine blk_drew ?_ | refine blk_alloc ?_ _)); exact BK213.out⟩, ⟨by repeat (first | (with_reducible first | exact HB.out | apply below_alloc | apply pw_below_drewN | apply below_drew1 | refine below_set ?_ GE213.out) | exact HB.out)⟩⟩
    ·rw [if_neg c13] at H
     have c13b0 : (t219 == 0) = false := beq_eq_false_iff_ne.mpr c13
     have c13b1 : (t219 != 0) = true := bne_iff_ne.mpr c13
     (first | rw [c13b0] | (simp only [i64_w, i32_w]; rw [c13b0]) | skip)
     by_cases c14 : (t216.length : Int) = 0
     ·rw [if_pos c14] at H
      have c14b0 : ((t216.length : Int) == 0) = true := beq_iff_eq.mpr c14
      have c14b1 : ((t216.length : Int) != 0) = false := bne_eq_false_iff_eq.mpr c14
      clear c14
      replace H := Option.bind_eq_some_iff.mp H
      obtain ⟨t220, A150, H⟩ := H
      replace H : (some t220) = some r := H
      have A15 := Aside0.mk A150
      clear A150
      obtain rfl := Option.some.inj H
      obtain ⟨Ao16, co16, eo16⟩ := Kd.R_slice HO218.out
      subst eo16
      go_wp2_with (first | (go_at_call 9; (with_reducible refine (signalbenchlaw16_awake.calls kj3  t220 _ A15.out).mono ?_); rintro e w17 ⟨rfl, hb⟩; have n0_ := Aside0.mk (Kd.R_below (rkw HO218.out) hb); have n1_ := Aside0.mk (blkb BK213.out hb); have n2_ := Aside0.mk (below_step (hbw HB.out) hb); clear HO218; clear BK213; clear HB; have HO218 := n0_; have BK213 := n1_; have HB := n2_; clear n0_ n1_ n2_; (try clear hb); (try clear hb2); (try clear hk); (try clear hi)))
      go_ret
      exact ⟨by first | rfl | (simp [errW_none, errW_some] <;> rfl) | (simp [*, errW_none, errW_some] <;> rfl), by repeat (first | (with_reducible first | exact HB.out | apply below_alloc | apply pw_below_drewN | apply below_drew1 | refine below_set ?_ GE213.out) | exact HB.out)⟩
     ·rw [if_neg c14] at H
      have c14b0 : ((t216.length : Int) == 0) = false := beq_eq_false_iff_ne.mpr c14
      have c14b1 : ((t216.length : Int) != 0) = true := bne_iff_ne.mpr c14
      have c14b2 : ¬ (t216 = []) := fun h_ => c14 (by rw [h_]; rfl)
      obtain rfl := Option.some.inj H
      obtain ⟨Ao18, co18, eo18⟩ := Kd.R_slice HO218.out
      subst eo18
      go_wp2
      go_ret
      exact ⟨by first | rfl | (simp [errW_none, errW_some] <;> rfl) | (simp [*, errW_none, errW_some] <;> rfl), by repeat (first | (with_reducible first | exact HB.out | apply below_alloc | apply pw_below_drewN | apply below_drew1 | refine below_set ?_ GE213.out) | exact HB.out)⟩
   case rest =>
    clear HC10
    try clear c1
    try clear c2
    try clear p2
    try clear c4
    try clear c6
    try clear c9
    try clear c13
    try clear c13b0
    try clear c13b1
    try clear c14
    try clear c14b0
    try clear c14b1
    try clear c14b2
    try clear hcz11_0
    try clear hfz11_0
    try clear p2
    obtain ⟨kq, HA, HJ9, HO_5, BK213, HB⟩ := hcut
    cases kq with
    | zero => exact absurd HA.out (by simp [signalbenchlaw16_NrziRoundTrips.j1])
    | succ kj9 =>
     have H := HA.out
     clear HA
     simp only [signalbenchlaw16_NrziRoundTrips.j1] at H
     obtain ⟨y221, hy221⟩ : ∃ y_ : List (S44), y_ = (([] : List (S44))) := ⟨_, rfl⟩
     replace H : (signalbenchlaw16_NrziRoundTrips.l0 kj9 l1 t216 y221 0 a0_0) = some r := by first | (rw [hy221]; with_reducible exact H) | (have H2_ := (Option.bind_some _ _).symm.trans H; rw [hy221]; with_reducible exact H2_) | (have H2_ := (Option.bind_some _ _).symm.trans H; with_reducible exact H2_) | with_reducible exact H | (rw [hy221]; exact H) | exact H
     have Ny221 := Aside0.mk hy221
     clear hy221
     have H' := Aside0.mk H
     clear H
     go_wp2_with (first | ((with_reducible refine gate_dst (N := 27) rfl ?_); refine Kd.R_lit k44 _ 44 ?hg (N := 27) ?hd (xs := ([] : List (S44))) (inner := []) (ok := fun _ => True) (okp := fun _ => True) ?hr ?hp (fun _ hk => hk) trivial (Below.refl _ _) (Nat.le_refl _) (by simp) ?_; (case hd => rfl); (case hg => rfl); (case hr => first | (go_simp; done) | (go_simp; rfl)); (case hp => exact (Reps.none _ _)); intro v222 w19 ho20 hb hg_ hnew_; clear hg_ hnew_; (first | rw [← Ny221.out] at ho20 | (simp only [Int.reduceToNat] at ho20; rw [← Ny221.out] at ho20)); have n0_ := Aside0.mk (Kd.R_elder' (rkw HO_5.out) (Kd.R_base ho20) hb); have n1_ := Aside0.mk (Kd.R_lower (Kd.R_new' ho20 (Kd.R_lt (rkw HO_5.out))) (below_size (hbw HB.out))); have n2_ := Aside0.mk (blkb BK213.out hb); have n3_ := Aside0.mk (below_step (hbw HB.out) hb); clear HO_5; clear BK213; clear HB; have HO_5 := n0_; have HO223 := n1_; have BK213 := n2_; have HB := n3_; clear n0_ n1_ n2_ n3_; clear hb ho20))
     go_loopg [7, 8] kj9 (fun kq v7 v8 w' => ∃ (x7_3 : List (S44)) (x8_3 : Int), v8 = .int .i64 x8_3 ∧ Aside0 (signalbenchlaw16_NrziRoundTrips.l0 kq l1 t216 x7_3 x8_3 a0_0 = some r) ∧ Aside0 (kq ≤ kj9) ∧ Aside0 (Kd.R k44 44 w' w.heap.size (fun k_ => some k_ ≠ (v7 : Value).ownBlock) v217 t216) ∧ Aside0 (Kd.R k44 44 w' w.heap.size (fun k_ => some k_ ≠ (v217 : Value).ownBlock) v7 x7_3) ∧ Aside0 (w'.heap[gb213]? = some (.cells #[.bool a0_0] 23 (0, 0))) ∧ Aside0 (Below w.heap.size w w'))
     case atStart => exact ⟨(y221), (0), (by first | rfl | (simp; done) | (simp [*]; done)), H', ⟨Nat.le_refl _⟩, ⟨by (with_reducible repeat (first | apply Kd.R_alloc | apply Kd.R_drewN | apply Kd.R_drew)); exact Kd.R_mono HO_5.out (fun _ hk => hk.2)⟩, ⟨by (with_reducible repeat (first | apply Kd.R_alloc | apply Kd.R_drewN | apply Kd.R_drew)); exact Kd.R_mono HO223.out (fun _ hk => hk.2)⟩, ⟨by (with_reducible repeat (first | refine blk_drewN ?_ _ | refine blk_drew ?_ | refine blk_alloc ?_ _)); exact BK213.out⟩, ⟨by repeat (first | (with_reducible first | exact HB.out | apply below_alloc | apply pw_below_drewN | apply below_drew1 | refine below_set ?_ GE213.out) | exact HB.out)⟩⟩
     case round =>
      clear H'
      try clear c1
      try clear c2
      try clear p2
      try clear c4
      try clear c6
      try clear c9
      try clear c13
      try clear c13b0
      try clear c13b1
      try clear c14
      try clear c14b0
      try clear c14b1
      try clear c14b2
      try clear c19
      try clear c20
      try clear hcz11_0
      try clear hfz11_0
      try clear p2
      obtain ⟨x7_3, x8_3, rfl, HA, HK3, HO_5, HO_7, BK213, HB⟩ := hrel
      cases gk with
      | zero => exact absurd HA.out (by simp [signalbenchlaw16_NrziRoundTrips.l0])
      | succ k3 =>
       have H := HA.out
       clear HA
       simp only [signalbenchlaw16_NrziRoundTrips.l0] at H
       by_cases c21 : x8_3 < (l1.length : Int)
       ·rw [if_pos c21] at H
        have c21b0 : decide (x8_3 < (l1.length : Int)) = true := decide_eq_true c21
        clear c21
        by_cases c22 : 0 ≤ x8_3
        ·rw [if_pos c22] at H
         have c22b0 : decide (0 ≤ x8_3) = true := decide_eq_true c22
         clear c22
         by_cases c23 : x7_3.length < 2932031007402
         ·rw [if_pos c23] at H
          have LMc23 := Aside0.mk c23
          clear c23
          obtain ⟨y226, hy226⟩ : ∃ y_ : List (S44), y_ = (x7_3 ++ [(⟨(rd_T44 l1 x8_3).f0, 0, 0, (rd_T44 l1 x8_3).f3, 0⟩ : S44)]) := ⟨_, rfl⟩
          replace H : (signalbenchlaw16_NrziRoundTrips.l0 k3 l1 t216 y226 (wrap64 (x8_3 + 1)) a0_0) = some r := by first | (rw [hy226]; with_reducible exact H) | (have H2_ := (Option.bind_some _ _).symm.trans H; rw [hy226]; with_reducible exact H2_) | (have H2_ := (Option.bind_some _ _).symm.trans H; with_reducible exact H2_) | with_reducible exact H | (rw [hy226]; exact H) | exact H
          have Ny226 := Aside0.mk hy226
          clear hy226
          have H' := Aside0.mk H
          clear H
          try go_wp2
          have n0_ := Aside0.mk (Kd.R_drew HO_5.out)
          have n1_ := Aside0.mk (Kd.R_drew HO_7.out)
          have n2_ := Aside0.mk (blk_drew BK213.out)
          have n3_ := Aside0.mk (below_drew1 HB.out)
          clear HO_5
          clear HO_7
          clear BK213
          clear HB
          have HO_5 := n0_
          have HO_7 := n1_
          have BK213 := n2_
          have HB := n3_
          clear n0_ n1_ n2_ n3_
          have p224 : 0 ≤ (x8_3 : Int) := of_decide_eq_true (by first | (with_reducible assumption) | assumption)
          have q224 : x8_3 < (l1.length : Int) := of_decide_eq_true (by first | (with_reducible assumption) | assumption)
          obtain ⟨ad224, e224, hx224_0, hx224_1, hx224_2, hx224_3, hx224_4⟩ := at_T44 HR1.out x8_3 p224 q224
          have hw224_4 := hx224_4
          have hw224_3 := hx224_3
          have hw224_2 := hx224_2
          have hw224_1 := hx224_1
          have hw224_0 := hx224_0
          cases e224
          replace hx224_0 := (HB.out.cell (World.block_lt_of_cell? w _ hx224_0)).trans hx224_0
          replace hx224_1 := (HB.out.cell (World.block_lt_of_cell? w _ hx224_1)).trans hx224_1
          replace hx224_2 := (HB.out.cell (World.block_lt_of_cell? w _ hx224_2)).trans hx224_2
          replace hx224_3 := (HB.out.cell (World.block_lt_of_cell? w _ hx224_3)).trans hx224_3
          replace hx224_4 := (HB.out.cell (World.block_lt_of_cell? w _ hx224_4)).trans hx224_4
          replace p224 := eq_true p224
          replace q224 := eq_true q224
          have p225 : 0 ≤ (x8_3 : Int) := of_decide_eq_true (by first | (with_reducible assumption) | assumption)
          have q225 : x8_3 < (l1.length : Int) := of_decide_eq_true (by first | (with_reducible assumption) | assumption)
          obtain ⟨ad225, e225, hx225_0, hx225_1, hx225_2, hx225_3, hx225_4⟩ := at_T44 HR1.out x8_3 p225 q225
          have hw225_4 := hx225_4
          have hw225_3 := hx225_3
          have hw225_2 := hx225_2
          have hw225_1 := hx225_1
          have hw225_0 := hx225_0
          obtain rfl : ad224 = ad225 := (by injection e225)
          replace hx225_0 := (HB.out.cell (World.block_lt_of_cell? w _ hx225_0)).trans hx225_0
          replace hx225_1 := (HB.out.cell (World.block_lt_of_cell? w _ hx225_1)).trans hx225_1
          replace hx225_2 := (HB.out.cell (World.block_lt_of_cell? w _ hx225_2)).trans hx225_2
          replace hx225_3 := (HB.out.cell (World.block_lt_of_cell? w _ hx225_3)).trans hx225_3
          replace hx225_4 := (HB.out.cell (World.block_lt_of_cell? w _ hx225_4)).trans hx225_4
          replace p225 := eq_true p225
          replace q225 := eq_true q225
          refine start_ (n := 15) (S := fun w' => w'.cell? (ad224.add ((x8_3).toNat * 5)) = some (.int .i64 ((rd_T44 l1 x8_3).f0)) ∧ w'.cell? ⟨(ad224.add ((x8_3).toNat * 5)).block, (ad224.add ((x8_3).toNat * 5)).off + 1, none⟩ = some (.int .i64 ((rd_T44 l1 x8_3).f1)) ∧ w'.cell? ⟨(ad224.add ((x8_3).toNat * 5)).block, (ad224.add ((x8_3).toNat * 5)).off + 2, none⟩ = some (.int .i64 ((rd_T44 l1 x8_3).f2)) ∧ w'.cell? ⟨(ad224.add ((x8_3).toNat * 5)).block, (ad224.add ((x8_3).toNat * 5)).off + 3, none⟩ = some (.string ((rd_T44 l1 x8_3).f3)) ∧ w'.cell? ⟨(ad224.add ((x8_3).toNat * 5)).block, (ad224.add ((x8_3).toNat * 5)).off + 4, none⟩ = some (.int .i64 ((rd_T44 l1 x8_3).f4)) ∧ w'.cell? (ad224.add ((x8_3).toNat * 5)) = some (.int .i64 ((rd_T44 l1 x8_3).f0)) ∧ w'.cell? ⟨(ad224.add ((x8_3).toNat * 5)).block, (ad224.add ((x8_3).toNat * 5)).off + 1, none⟩ = some (.int .i64 ((rd_T44 l1 x8_3).f1)) ∧ w'.cell? ⟨(ad224.add ((x8_3).toNat * 5)).block, (ad224.add ((x8_3).toNat * 5)).off + 2, none⟩ = some (.int .i64 ((rd_T44 l1 x8_3).f2)) ∧ w'.cell? ⟨(ad224.add ((x8_3).toNat * 5)).block, (ad224.add ((x8_3).toNat * 5)).off + 3, none⟩ = some (.string ((rd_T44 l1 x8_3).f3)) ∧ w'.cell? ⟨(ad224.add ((x8_3).toNat * 5)).block, (ad224.add ((x8_3).toNat * 5)).off + 4, none⟩ = some (.int .i64 ((rd_T44 l1 x8_3).f4))) (ds := []) #[false, false, false, false, false, false, false, false, false, false, false, false, false, false, false] (by kernel_rfl) rfl rfl ⟨((HB.out.cell (World.block_lt_of_cell? w _ hw224_0)).trans hw224_0), ((HB.out.cell (World.block_lt_of_cell? w _ hw224_1)).trans hw224_1), ((HB.out.cell (World.block_lt_of_cell? w _ hw224_2)).trans hw224_2), ((HB.out.cell (World.block_lt_of_cell? w _ hw224_3)).trans hw224_3), ((HB.out.cell (World.block_lt_of_cell? w _ hw224_4)).trans hw224_4), ((HB.out.cell (World.block_lt_of_cell? w _ hw225_0)).trans hw225_0), ((HB.out.cell (World.block_lt_of_cell? w _ hw225_1)).trans hw225_1), ((HB.out.cell (World.block_lt_of_cell? w _ hw225_2)).trans hw225_2), ((HB.out.cell (World.block_lt_of_cell? w _ hw225_3)).trans hw225_3), ((HB.out.cell (World.block_lt_of_cell? w _ hw225_4)).trans hw225_4)⟩ (fun hHeld => ?_); refine with_tabW signalbenchlaw16_NrziRoundTrips.tab10 signalbenchlaw16_NrziRoundTrips.bits10 (fun HT_ HW_ => ?_)
          generalize wr.drew = w24 at HO_5 HO_7 BK213 HB hx224_0 hx224_1 hx224_2 hx224_3 hx224_4 hx225_0 hx225_1 hx225_2 hx225_3 hx225_4 hHeld ⊢
          refine pstep 0 (some 34) #[true, false, false, false, false, false, false, false, false, false, false, false, false, false, false] HT_.out ?_
          refine pstep 1 (some 35) #[true, true, false, false, false, false, false, false, false, false, false, false, false, false, false] HT_.out ?_
          refine pstep 2 (some 36) #[true, true, true, false, false, false, false, false, false, false, false, false, false, false, false] HT_.out ?_
          refine pstep 3 (some 37) #[true, true, true, true, false, false, false, false, false, false, false, false, false, false, false] HT_.out ?_
          refine pstep 4 (some 38) #[true, true, true, true, true, false, false, false, false, false, false, false, false, false, false] HT_.out ?_
          refine pstep 6 (some 40) #[true, true, true, true, true, false, true, false, false, false, false, false, false, false, false] HT_.out ?_
          refine pstep 7 (some 41) #[true, true, true, true, true, false, true, true, false, false, false, false, false, false, false] HT_.out ?_
          refine pstep 8 (some 42) #[true, true, true, true, true, false, true, true, true, false, false, false, false, false, false] HT_.out ?_
          refine pstep 9 (some 43) #[true, true, true, true, true, false, true, true, true, true, false, false, false, false, false] HT_.out ?_
          refine take_ (i := 5) (N := some 39) (v := ?_) (a' := ?_) #[true, true, true, true, true, true, true, true, true, true, false, false, false, false, false] rfl rfl (take_ofW HT_.out HW_.out (by kernel_rfl)) (fun _ _ _ h => h) (Or.inl ⟨by rfl, ?_⟩) hHeld ?_ ?_
          rotate_left
          ·rintro w' ⟨s0, s1, s2, s3, s4, s5, s6, s7, s8, s9⟩
           go_simp
           with_reducible rfl
          rotate_left
          ·simp only [Act.put, nrm]
           rfl
          refine take_ (i := 10) (N := some 44) (v := ?_) (a' := ?_) #[true, true, true, true, true, true, true, true, true, true, true, false, false, false, false] rfl rfl (take_ofW HT_.out HW_.out (by kernel_rfl)) (fun _ _ _ h => h) (Or.inl ⟨by rfl, ?_⟩) hHeld ?_ ?_
          rotate_left
          ·rintro w' ⟨s0, s1, s2, s3, s4, s5, s6, s7, s8, s9⟩
           go_simp
           with_reducible rfl
          rotate_left
          ·simp only [Act.put, nrm]
           rfl
          refine pstep 11 (some 45) #[true, true, true, true, true, true, true, true, true, true, true, true, false, false, false] HT_.out ?_
          refine one_ (i := 12) (N := some 46) #[true, true, true, true, true, true, true, true, true, true, true, true, true, false, false] rfl rfl (one_of HT_.out (by kernel_rfl)) (by decide) (fun K hK => ?_)
          refine value_ (w1 := ?_) (v := ?_) (by rfl) rfl ?_ ?_
          rotate_left 2
          ·go_simp
           constructor
           ·rfl
           ·rfl
          refine hK.out _ _ ⟨(World.cell?_alloc_lt _ _ _ (World.block_lt_of_cell? _ _ (((HB.out.cell (World.block_lt_of_cell? w _ hw224_0)).trans hw224_0)))).trans (((HB.out.cell (World.block_lt_of_cell? w _ hw224_0)).trans hw224_0)), (World.cell?_alloc_lt _ _ _ (World.block_lt_of_cell? _ _ (((HB.out.cell (World.block_lt_of_cell? w _ hw224_1)).trans hw224_1)))).trans (((HB.out.cell (World.block_lt_of_cell? w _ hw224_1)).trans hw224_1)), (World.cell?_alloc_lt _ _ _ (World.block_lt_of_cell? _ _ (((HB.out.cell (World.block_lt_of_cell? w _ hw224_2)).trans hw224_2)))).trans (((HB.out.cell (World.block_lt_of_cell? w _ hw224_2)).trans hw224_2)), (World.cell?_alloc_lt _ _ _ (World.block_lt_of_cell? _ _ (((HB.out.cell (World.block_lt_of_cell? w _ hw224_3)).trans hw224_3)))).trans (((HB.out.cell (World.block_lt_of_cell? w _ hw224_3)).trans hw224_3)), (World.cell?_alloc_lt _ _ _ (World.block_lt_of_cell? _ _ (((HB.out.cell (World.block_lt_of_cell? w _ hw224_4)).trans hw224_4)))).trans (((HB.out.cell (World.block_lt_of_cell? w _ hw224_4)).trans hw224_4)), (World.cell?_alloc_lt _ _ _ (World.block_lt_of_cell? _ _ (((HB.out.cell (World.block_lt_of_cell? w _ hw225_0)).trans hw225_0)))).trans (((HB.out.cell (World.block_lt_of_cell? w _ hw225_0)).trans hw225_0)), (World.cell?_alloc_lt _ _ _ (World.block_lt_of_cell? _ _ (((HB.out.cell (World.block_lt_of_cell? w _ hw225_1)).trans hw225_1)))).trans (((HB.out.cell (World.block_lt_of_cell? w _ hw225_1)).trans hw225_1)), (World.cell?_alloc_lt _ _ _ (World.block_lt_of_cell? _ _ (((HB.out.cell (World.block_lt_of_cell? w _ hw225_2)).trans hw225_2)))).trans (((HB.out.cell (World.block_lt_of_cell? w _ hw225_2)).trans hw225_2)), (World.cell?_alloc_lt _ _ _ (World.block_lt_of_cell? _ _ (((HB.out.cell (World.block_lt_of_cell? w _ hw225_3)).trans hw225_3)))).trans (((HB.out.cell (World.block_lt_of_cell? w _ hw225_3)).trans hw225_3)), (World.cell?_alloc_lt _ _ _ (World.block_lt_of_cell? _ _ (((HB.out.cell (World.block_lt_of_cell? w _ hw225_4)).trans hw225_4)))).trans (((HB.out.cell (World.block_lt_of_cell? w _ hw225_4)).trans hw225_4))⟩ (fun hHeld => ?_)
          clear hK K
          refine norm_ (a' := ?_) ?_ ?_
          rotate_left
          ·show Act.put _ (some 46) _ = _
           simp only [Act.put, nrm]
           rfl
          refine one_ (i := 13) (N := some 47) #[true, true, true, true, true, true, true, true, true, true, true, true, true, true, false] rfl rfl (one_of HT_.out (by kernel_rfl)) (by decide) (fun K hK => ?_)
          refine Kd.R_append_step k44 (w0 := w) w.heap.size (by rfl) (.tmp 34) (.tmp 46) 38 44 (.agg #[(.int .i64 0), (.int .i64 0), (.int .i64 0), (.string ⟨#[]⟩), (.int .i64 0)]) 48 rfl Try.underlying38 info44 rfl (by decide) (by omega) u7 x7_3 (⟨(rd_T44 l1 x8_3).f0, 0, 0, (rd_T44 l1 x8_3).f3, 0⟩ : S44) [.int .i64 ((rd_T44 l1 x8_3).f0), .int .i64 0, .int .i64 0, .string ((rd_T44 l1 x8_3).f3), .int .i64 0] (fun k_ => some k_ ≠ (v217 : Value).ownBlock) (fun _ => False) rfl rfl ?aP (fun _ hk => hk.elim) ?aF ?aO ?aB ?aS ?aL ?_
          (case aP => exact k44_mkM _ _ _ (⟨(rd_T44 l1 x8_3).f0, 0, 0, (rd_T44 l1 x8_3).f3, 0⟩ : S44))
          (case aB => exact (hbw HB.out))
          (case aF => exact (fun k_ hk => Kd.fresh' (Kd.R_lt (rkw HO_5.out)) k_ hk))
          (case aO => exact (rkw HO_7.out))
          (case aS => exact (below_size (hbw HB.out)))
          (case aL => have := LMc23.out; omega)
          intro v227 w25 ho hb hg hat
          rw [← Ny226.out] at ho
          have n0_ := Aside0.mk (Kd.R_after (ok := (fun _ => True)) (by (with_reducible repeat (first | apply Kd.R_alloc | apply Kd.R_drewN | apply Kd.R_drew)); exact Kd.R_mono HO_5.out (fun _ hk => ⟨trivial, hk⟩)) hg hat)
          have n1_ := Aside0.mk (blkg BK213.out hg (Kd.R_ne HO_7.out BK213.out (by decide)))
          have n2_ := Aside0.mk (hb)
          have n3_ := Aside0.mk (ho)
          clear HO_5
          clear BK213
          clear HB
          clear HO_7
          have HO_5 := n0_
          have BK213 := n1_
          have HB := n2_
          have HO228 := n3_
          clear n0_ n1_ n2_ n3_
          clear ho hb hg hat
          refine hK.out _ _ ⟨((HB.out.cell (World.block_lt_of_cell? w _ hw224_0)).trans hw224_0), ((HB.out.cell (World.block_lt_of_cell? w _ hw224_1)).trans hw224_1), ((HB.out.cell (World.block_lt_of_cell? w _ hw224_2)).trans hw224_2), ((HB.out.cell (World.block_lt_of_cell? w _ hw224_3)).trans hw224_3), ((HB.out.cell (World.block_lt_of_cell? w _ hw224_4)).trans hw224_4), ((HB.out.cell (World.block_lt_of_cell? w _ hw225_0)).trans hw225_0), ((HB.out.cell (World.block_lt_of_cell? w _ hw225_1)).trans hw225_1), ((HB.out.cell (World.block_lt_of_cell? w _ hw225_2)).trans hw225_2), ((HB.out.cell (World.block_lt_of_cell? w _ hw225_3)).trans hw225_3), ((HB.out.cell (World.block_lt_of_cell? w _ hw225_4)).trans hw225_4)⟩ (fun hHeld => ?_)
          clear hK K
          refine norm_ (a' := ?_) ?_ ?_
          rotate_left
          ·show Act.put _ (some 47) _ = _
           simp only [Act.put, nrm]
           rfl
          refine pstep 14 (some 7) #[true, true, true, true, true, true, true, true, true, true, true, true, true, true, true] HT_.out ?_
          refine done_ (done_of HT_.out (by kernel_rfl)) ?_
          try go_wp2
          go_roundg k3
          case measure => have := HJ3.out; have := HJ9.out; have := HK3.out; omega
          case rel => exact ⟨(y226), (wrap64 (x8_3 + 1)), (by first | rfl | (simp; done) | (simp [*]; done)), H', ⟨by have := HJ3.out; have := HJ9.out; have := HK3.out; omega⟩, ⟨by (with_reducible repeat (first | apply Kd.R_alloc | apply Kd.R_drewN | apply Kd.R_drew)); exact Kd.R_mono HO_5.out (fun _ hk => hk.2)⟩, ⟨by (with_reducible repeat (first | apply Kd.R_alloc | apply Kd.R_drewN | apply Kd.R_drew)); exact HO228.out⟩, ⟨by (with_reducible repeat (first | refine blk_drewN ?_ _ | refine blk_drew ?_ | refine blk_alloc ?_ _)); exact BK213.out⟩, ⟨by repeat (first | (with_reducible first | exact HB.out | apply below_alloc | apply pw_below_drewN | apply below_drew1 | refine below_set ?_ GE213.out) | exact HB.out)⟩⟩
         ·rw [if_neg c23] at H
          exact absurd H (by simp)
        ·rw [if_neg c22] at H
         exact absurd H (by simp)
       ·rw [if_neg c21] at H
        have c21b0 : decide (x8_3 < (l1.length : Int)) = false := decide_eq_false c21
        clear c21
        replace H := Option.bind_eq_some_iff.mp H
        obtain ⟨t229, A260, H⟩ := H
        replace H : ((nrzi_Decode.f k3 a0_0 t229).bind fun t232 => ((signalbenchlaw16_ideal.f k3 x7_3).bind fun t235 => ((signalbenchref07_Same.f k3 t232 t235).bind fun t238 => (if t238 = true then ((signalbenchlaw16_awake.f k3).bind fun t239 => (some t239)) else (some false))))) = some r := H
        have A26 := Aside0.mk A260
        clear A260
        replace H := Option.bind_eq_some_iff.mp H
        obtain ⟨t232, A270, H⟩ := H
        replace H : ((signalbenchlaw16_ideal.f k3 x7_3).bind fun t235 => ((signalbenchref07_Same.f k3 t232 t235).bind fun t238 => (if t238 = true then ((signalbenchlaw16_awake.f k3).bind fun t239 => (some t239)) else (some false)))) = some r := H
        have A27 := Aside0.mk A270
        clear A270
        replace H := Option.bind_eq_some_iff.mp H
        obtain ⟨t235, A280, H⟩ := H
        replace H : ((signalbenchref07_Same.f k3 t232 t235).bind fun t238 => (if t238 = true then ((signalbenchlaw16_awake.f k3).bind fun t239 => (some t239)) else (some false))) = some r := H
        have A28 := Aside0.mk A280
        clear A280
        replace H := Option.bind_eq_some_iff.mp H
        obtain ⟨t238, A290, H⟩ := H
        replace H : (if t238 = true then ((signalbenchlaw16_awake.f k3).bind fun t239 => (some t239)) else (some false)) = some r := H
        have A29 := Aside0.mk A290
        clear A290
        by_cases c30 : t238 = true
        ·subst c30
         have H1 : ((signalbenchlaw16_awake.f k3).bind fun t239 => (some t239)) = some r := by rw [if_pos rfl] at H; exact H
         clear H
         have H := H1
         clear H1
         replace H := Option.bind_eq_some_iff.mp H
         obtain ⟨t239, A310, H⟩ := H
         replace H : (some t239) = some r := H
         have A31 := Aside0.mk A310
         clear A310
         obtain rfl := Option.some.inj H
         try go_wp2
         have n0_ := Aside0.mk (Kd.R_drew HO_5.out)
         have n1_ := Aside0.mk (Kd.R_drew HO_7.out)
         have n2_ := Aside0.mk (blk_drew BK213.out)
         have n3_ := Aside0.mk (below_drew1 HB.out)
         clear HO_5
         clear HO_7
         clear BK213
         clear HB
         have HO_5 := n0_
         have HO_7 := n1_
         have BK213 := n2_
         have HB := n3_
         clear n0_ n1_ n2_ n3_
         obtain ⟨Ao33, co33, eo33⟩ := Kd.R_slice HO_5.out
         (first | subst eo33 | (injection eo33 with f1_ f2_ f3_; have f4_ := f1_.symm; have f5_ := f3_.symm; clear f1_ f2_ f3_; subst f4_; subst f5_))
         refine start_ (n := 11) (S := fun w' => w'.cell? ⟨gb213, 0, none⟩ = some (.bool a0_0)) (ds := []) #[false, false, false, false, false, false, false, false, false, false, false] (by kernel_rfl) rfl rfl ((blk_cell BK213.out 0).trans rfl) (fun hHeld => ?_); refine with_tabW signalbenchlaw16_NrziRoundTrips.tab11 signalbenchlaw16_NrziRoundTrips.bits11 (fun HT_ HW_ => ?_)
         generalize wr.drew = w32 at HO_5 HO_7 BK213 HB hHeld ⊢
         refine pstep 1 (some 49) #[false, true, false, false, false, false, false, false, false, false, false] HT_.out ?_
         refine pstep 4 (some 52) #[false, true, false, false, true, false, false, false, false, false, false] HT_.out ?_
         refine take_ (i := 0) (N := some 48) (v := ?_) (a' := ?_) #[true, true, false, false, true, false, false, false, false, false, false] rfl rfl (take_ofW HT_.out HW_.out (by kernel_rfl)) (fun _ _ _ h => h) (Or.inl ⟨by rfl, ?_⟩) hHeld ?_ ?_
         rotate_left
         ·intro w' s0
          go_simp
          with_reducible rfl
         rotate_left
         ·simp only [Act.put, nrm]
          rfl
         refine one_ (i := 2) (N := some 50) #[true, true, true, false, true, false, false, false, false, false, false] rfl rfl (one_of HT_.out (by kernel_rfl)) (by decide) (fun K hK => ?_)
         refine goes_ Try.func21 (by kernel_rfl) rfl #[.slice Ao33 t216.length co33] (by rfl) rfl rfl (by (try simp only [List.map_toArray, List.map_cons, List.map_nil]); first | done | rfl | (simp only [List.length_drop, List.length_take]; rfl)) ?_
         with_reducible refine (signalbenchlaw16_ideal.calls k3 _ _ t216 t229 _ ?side1 ?side2 A26.out).mono ?_
         (case side1 => repeat (first | exact (Kd.R_reads' HO_5.out).2.2 | (with_reducible refine Kd.C_alloc ?_ _) | (with_reducible refine Kd.C_drewN ?_ _) | (with_reducible refine Kd.C_drew ?_)))
         (case side2 => exact (Kd.R_reads' HO_5.out).2.1)
         rintro e w34 ⟨v230, rfl, ho0, hb⟩
         refine ⟨_, rfl, ?_⟩
         have n0_ := Aside0.mk (Kd.R_below (rkw HO_5.out) hb)
         have n1_ := Aside0.mk (Kd.R_below (rkw HO_7.out) hb)
         have n2_ := Aside0.mk (Kd.R_lower ho0 (below_size (hbw HB.out)))
         have n3_ := Aside0.mk (blkb BK213.out hb)
         have n4_ := Aside0.mk (below_step (hbw HB.out) hb)
         clear HO_5
         clear HO_7
         clear BK213
         clear HB
         have HO_5 := n0_
         have HO_7 := n1_
         have HO231 := n2_
         have BK213 := n3_
         have HB := n4_
         clear n0_ n1_ n2_ n3_ n4_
         (try clear hb)
         (try clear hb2)
         (try clear hk)
         (try clear hi)
         (try clear ho0)
         obtain ⟨Ao35, co35, eo35⟩ := Kd.R_slice HO231.out
         (first | subst eo35 | (injection eo35 with f1_ f2_ f3_; have f4_ := f1_.symm; have f5_ := f3_.symm; clear f1_ f2_ f3_; subst f4_; subst f5_))
         refine hK.out _ _ ((blk_cell BK213.out 0).trans rfl) (fun hHeld => ?_)
         clear hK K
         refine norm_ (a' := ?_) ?_ ?_
         rotate_left
         ·show Act.put _ (some 50) _ = _
          simp only [Act.put, nrm]
          rfl
         refine one_ (i := 3) (N := some 51) #[true, true, true, true, true, false, false, false, false, false, false] rfl rfl (one_of HT_.out (by kernel_rfl)) (by decide) (fun K hK => ?_)
         refine goes_ Try.func17 (by kernel_rfl) rfl #[.agg #[.bool a0_0], .slice Ao35 t229.length co35] (by rfl) rfl rfl (by (try simp only [List.map_toArray, List.map_cons, List.map_nil]); first | done | rfl | (simp only [List.length_drop, List.length_take]; rfl)) ?_
         with_reducible refine (nrzi_Decode.calls k3 a0_0 _ _ t229 t232 _ ?side1 ?side2 A27.out).mono ?_
         (case side1 => repeat (first | exact (Kd.R_reads' HO231.out).2.2 | (with_reducible refine Kd.C_alloc ?_ _) | (with_reducible refine Kd.C_drewN ?_ _) | (with_reducible refine Kd.C_drew ?_)))
         (case side2 => exact (Kd.R_reads' HO231.out).2.1)
         rintro e w36 ⟨v233, rfl, ho0, hb⟩
         refine ⟨_, rfl, ?_⟩
         have n0_ := Aside0.mk (Kd.R_below (rkw HO_5.out) hb)
         have n1_ := Aside0.mk (Kd.R_below (rkw HO_7.out) hb)
         have n2_ := Aside0.mk (Kd.R_elder' (rkw HO231.out) (Kd.R_base ho0) hb)
         have n3_ := Aside0.mk (Kd.R_lower (Kd.R_new' ho0 (Kd.R_lt (rkw HO231.out))) (below_size (hbw HB.out)))
         have n4_ := Aside0.mk (blkb BK213.out hb)
         have n5_ := Aside0.mk (below_step (hbw HB.out) hb)
         clear HO_5
         clear HO_7
         clear HO231
         clear BK213
         clear HB
         have HO_5 := n0_
         have HO_7 := n1_
         have HO231 := n2_
         have HO234 := n3_
         have BK213 := n4_
         have HB := n5_
         clear n0_ n1_ n2_ n3_ n4_ n5_
         (try clear hb)
         (try clear hb2)
         (try clear hk)
         (try clear hi)
         (try clear ho0)
         obtain ⟨Ao37, co37, eo37⟩ := Kd.R_slice HO_7.out
         (first | subst eo37 | (injection eo37 with f1_ f2_ f3_; have f4_ := f1_.symm; have f5_ := f3_.symm; clear f1_ f2_ f3_; subst f4_; subst f5_))
         refine hK.out _ _ ((blk_cell BK213.out 0).trans rfl) (fun hHeld => ?_)
         clear hK K
         refine norm_ (a' := ?_) ?_ ?_
         rotate_left
         ·show Act.put _ (some 51) _ = _
          simp only [Act.put, nrm]
          rfl
         refine one_ (i := 5) (N := some 53) #[true, true, true, true, true, true, false, false, false, false, false] rfl rfl (one_of HT_.out (by kernel_rfl)) (by decide) (fun K hK => ?_)
         refine goes_ Try.func21 (by kernel_rfl) rfl #[.slice Ao37 x7_3.length co37] (by rfl) rfl rfl (by (try simp only [List.map_toArray, List.map_cons, List.map_nil]); first | done | rfl | (simp only [List.length_drop, List.length_take]; rfl)) ?_
         with_reducible refine (signalbenchlaw16_ideal.calls k3 _ _ x7_3 t235 _ ?side1 ?side2 A28.out).mono ?_
         (case side1 => repeat (first | exact (Kd.R_reads' HO_7.out).2.2 | (with_reducible refine Kd.C_alloc ?_ _) | (with_reducible refine Kd.C_drewN ?_ _) | (with_reducible refine Kd.C_drew ?_)))
         (case side2 => exact (Kd.R_reads' HO_7.out).2.1)
         rintro e w38 ⟨v236, rfl, ho0, hb⟩
         refine ⟨_, rfl, ?_⟩
         have n0_ := Aside0.mk (Kd.R_below (rkw HO_5.out) hb)
         have n1_ := Aside0.mk (Kd.R_below (rkw HO_7.out) hb)
         have n2_ := Aside0.mk (Kd.R_elder' (rkw HO231.out) (Kd.R_base ho0) hb)
         have n3_ := Aside0.mk (Kd.R_elder' (rkw HO234.out) (Kd.R_base ho0) hb)
         have n4_ := Aside0.mk (Kd.R_lower (Kd.R_new' (Kd.R_new' ho0 (Kd.R_lt (rkw HO231.out))) (Kd.R_lt (rkw HO234.out))) (below_size (hbw HB.out)))
         have n5_ := Aside0.mk (blkb BK213.out hb)
         have n6_ := Aside0.mk (below_step (hbw HB.out) hb)
         clear HO_5
         clear HO_7
         clear HO231
         clear HO234
         clear BK213
         clear HB
         have HO_5 := n0_
         have HO_7 := n1_
         have HO231 := n2_
         have HO234 := n3_
         have HO237 := n4_
         have BK213 := n5_
         have HB := n6_
         clear n0_ n1_ n2_ n3_ n4_ n5_ n6_
         (try clear hb)
         (try clear hb2)
         (try clear hk)
         (try clear hi)
         (try clear ho0)
         obtain ⟨Ao39, co39, eo39⟩ := Kd.R_slice HO234.out
         (first | subst eo39 | (injection eo39 with f1_ f2_ f3_; have f4_ := f1_.symm; have f5_ := f3_.symm; clear f1_ f2_ f3_; subst f4_; subst f5_))
         obtain ⟨Ao40, co40, eo40⟩ := Kd.R_slice HO237.out
         (first | subst eo40 | (injection eo40 with f1_ f2_ f3_; have f4_ := f1_.symm; have f5_ := f3_.symm; clear f1_ f2_ f3_; subst f4_; subst f5_))
         refine hK.out _ _ ((blk_cell BK213.out 0).trans rfl) (fun hHeld => ?_)
         clear hK K
         refine norm_ (a' := ?_) ?_ ?_
         rotate_left
         ·show Act.put _ (some 53) _ = _
          simp only [Act.put, nrm]
          rfl
         refine one_ (i := 6) (N := some 54) #[true, true, true, true, true, true, true, false, false, false, false] rfl rfl (one_of HT_.out (by kernel_rfl)) (by decide) (fun K hK => ?_)
         refine goes_ Try.func14 (by kernel_rfl) rfl #[.slice Ao39 t232.length co39, .slice Ao40 t235.length co40] (by rfl) rfl rfl (by (try simp only [List.map_toArray, List.map_cons, List.map_nil]); first | done | rfl | (simp only [List.length_drop, List.length_take]; rfl)) ?_
         with_reducible refine (signalbenchref07_Same.calls k3 _ _ t232 _ _ t235 true _ ?side1 ?side2 ?side3 ?side4 A29.out).mono ?_
         (case side1 => repeat (first | exact (Kd.R_reads' HO234.out).2.2 | (with_reducible refine Kd.C_alloc ?_ _) | (with_reducible refine Kd.C_drewN ?_ _) | (with_reducible refine Kd.C_drew ?_)))
         (case side2 => exact (Kd.R_reads' HO234.out).2.1)
         (case side3 => repeat (first | exact (Kd.R_reads' HO237.out).2.2 | (with_reducible refine Kd.C_alloc ?_ _) | (with_reducible refine Kd.C_drewN ?_ _) | (with_reducible refine Kd.C_drew ?_)))
         (case side4 => exact (Kd.R_reads' HO237.out).2.1)
         rintro e w' ⟨rfl, ⟨nd, rfl⟩⟩
         refine ⟨_, rfl, ?_⟩
         refine hK.out _ _ ((blk_cell BK213.out 0).trans rfl) (fun hHeld => ?_)
         clear hK K
         refine norm_ (a' := ?_) ?_ ?_
         rotate_left
         ·show Act.put _ (some 54) _ = _
          simp only [Act.put, nrm]
          rfl
         refine pstep 7 (some 55) #[true, true, true, true, true, true, true, true, false, false, false] HT_.out ?_
         refine one_ (i := 8) (N := some 56) #[true, true, true, true, true, true, true, true, true, false, false] rfl rfl (one_of HT_.out (by kernel_rfl)) (by decide) (fun K hK => ?_)
         refine goes_ Try.func9 (by kernel_rfl) rfl #[] (by rfl) rfl rfl (by (try simp only [List.map_toArray, List.map_cons, List.map_nil]); first | done | rfl | (simp only [List.length_drop, List.length_take]; rfl)) ?_
         with_reducible refine (signalbenchlaw16_awake.calls k3  t239 _ A31.out).mono ?_
         rintro e w41 ⟨rfl, hb⟩
         refine ⟨_, rfl, ?_⟩
         have n0_ := Aside0.mk (Kd.R_below (rkw HO_5.out) hb)
         have n1_ := Aside0.mk (Kd.R_below (rkw HO_7.out) hb)
         have n2_ := Aside0.mk (Kd.R_below (rkw HO231.out) hb)
         have n3_ := Aside0.mk (Kd.R_below (rkw HO234.out) hb)
         have n4_ := Aside0.mk (Kd.R_below (rkw HO237.out) hb)
         have n5_ := Aside0.mk (blkb BK213.out hb)
         have n6_ := Aside0.mk (below_step (hbw HB.out) hb)
         clear HO_5
         clear HO_7
         clear HO231
         clear HO234
         clear HO237
         clear BK213
         clear HB
         have HO_5 := n0_
         have HO_7 := n1_
         have HO231 := n2_
         have HO234 := n3_
         have HO237 := n4_
         have BK213 := n5_
         have HB := n6_
         clear n0_ n1_ n2_ n3_ n4_ n5_ n6_
         (try clear hb)
         (try clear hb2)
         (try clear hk)
         (try clear hi)
         refine hK.out _ _ ((blk_cell BK213.out 0).trans rfl) (fun hHeld => ?_)
         clear hK K
         refine norm_ (a' := ?_) ?_ ?_
         rotate_left
         ·show Act.put _ (some 56) _ = _
          simp only [Act.put, nrm]
          rfl
         refine pstep 9 (some 57) #[true, true, true, true, true, true, true, true, true, true, false] HT_.out ?_
         refine pstep 10 (some 4) #[true, true, true, true, true, true, true, true, true, true, true] HT_.out ?_
         refine done_ (done_of HT_.out (by kernel_rfl)) ?_
         try go_wp2
         go_ret
         exact ⟨by first | rfl | (simp [errW_none, errW_some] <;> rfl) | (simp [*, errW_none, errW_some] <;> rfl), by repeat (first | (with_reducible first | exact HB.out | apply below_alloc | apply pw_below_drewN | apply below_drew1 | refine below_set ?_ GE213.out) | exact HB.out)⟩
        ·replace c30 := Bool.eq_false_iff.mpr c30
         subst c30
         have H1 : (some false) = some r := by rw [if_neg (show ¬ (false = true) by decide)] at H; exact H
         clear H
         have H := H1
         clear H1
         obtain rfl := Option.some.inj H
         try go_wp2
         have n0_ := Aside0.mk (Kd.R_drew HO_5.out)
         have n1_ := Aside0.mk (Kd.R_drew HO_7.out)
         have n2_ := Aside0.mk (blk_drew BK213.out)
         have n3_ := Aside0.mk (below_drew1 HB.out)
         clear HO_5
         clear HO_7
         clear BK213
         clear HB
         have HO_5 := n0_
         have HO_7 := n1_
         have BK213 := n2_
         have HB := n3_
         clear n0_ n1_ n2_ n3_
         obtain ⟨Ao43, co43, eo43⟩ := Kd.R_slice HO_5.out
         (first | subst eo43 | (injection eo43 with f1_ f2_ f3_; have f4_ := f1_.symm; have f5_ := f3_.symm; clear f1_ f2_ f3_; subst f4_; subst f5_))
         refine start_ (n := 11) (S := fun w' => w'.cell? ⟨gb213, 0, none⟩ = some (.bool a0_0)) (ds := []) #[false, false, false, false, false, false, false, false, false, false, false] (by kernel_rfl) rfl rfl ((blk_cell BK213.out 0).trans rfl) (fun hHeld => ?_); refine with_tabW signalbenchlaw16_NrziRoundTrips.tab11 signalbenchlaw16_NrziRoundTrips.bits11 (fun HT_ HW_ => ?_)
         generalize wr.drew = w42 at HO_5 HO_7 BK213 HB hHeld ⊢
         refine pstep 1 (some 49) #[false, true, false, false, false, false, false, false, false, false, false] HT_.out ?_
         refine pstep 4 (some 52) #[false, true, false, false, true, false, false, false, false, false, false] HT_.out ?_
         refine take_ (i := 0) (N := some 48) (v := ?_) (a' := ?_) #[true, true, false, false, true, false, false, false, false, false, false] rfl rfl (take_ofW HT_.out HW_.out (by kernel_rfl)) (fun _ _ _ h => h) (Or.inl ⟨by rfl, ?_⟩) hHeld ?_ ?_
         rotate_left
         ·intro w' s0
          go_simp
          with_reducible rfl
         rotate_left
         ·simp only [Act.put, nrm]
          rfl
         refine one_ (i := 2) (N := some 50) #[true, true, true, false, true, false, false, false, false, false, false] rfl rfl (one_of HT_.out (by kernel_rfl)) (by decide) (fun K hK => ?_)
         refine goes_ Try.func21 (by kernel_rfl) rfl #[.slice Ao43 t216.length co43] (by rfl) rfl rfl (by (try simp only [List.map_toArray, List.map_cons, List.map_nil]); first | done | rfl | (simp only [List.length_drop, List.length_take]; rfl)) ?_
         with_reducible refine (signalbenchlaw16_ideal.calls k3 _ _ t216 t229 _ ?side1 ?side2 A26.out).mono ?_
         (case side1 => repeat (first | exact (Kd.R_reads' HO_5.out).2.2 | (with_reducible refine Kd.C_alloc ?_ _) | (with_reducible refine Kd.C_drewN ?_ _) | (with_reducible refine Kd.C_drew ?_)))
         (case side2 => exact (Kd.R_reads' HO_5.out).2.1)
         rintro e w44 ⟨v230, rfl, ho0, hb⟩
         refine ⟨_, rfl, ?_⟩
         have n0_ := Aside0.mk (Kd.R_below (rkw HO_5.out) hb)
         have n1_ := Aside0.mk (Kd.R_below (rkw HO_7.out) hb)
         have n2_ := Aside0.mk (Kd.R_lower ho0 (below_size (hbw HB.out)))
         have n3_ := Aside0.mk (blkb BK213.out hb)
         have n4_ := Aside0.mk (below_step (hbw HB.out) hb)
         clear HO_5
         clear HO_7
         clear BK213
         clear HB
         have HO_5 := n0_
         have HO_7 := n1_
         have HO231 := n2_
         have BK213 := n3_
         have HB := n4_
         clear n0_ n1_ n2_ n3_ n4_
         (try clear hb)
         (try clear hb2)
         (try clear hk)
         (try clear hi)
         (try clear ho0)
         obtain ⟨Ao45, co45, eo45⟩ := Kd.R_slice HO231.out
         (first | subst eo45 | (injection eo45 with f1_ f2_ f3_; have f4_ := f1_.symm; have f5_ := f3_.symm; clear f1_ f2_ f3_; subst f4_; subst f5_))
         refine hK.out _ _ ((blk_cell BK213.out 0).trans rfl) (fun hHeld => ?_)
         clear hK K
         refine norm_ (a' := ?_) ?_ ?_
         rotate_left
         ·show Act.put _ (some 50) _ = _
          simp only [Act.put, nrm]
          rfl
         refine one_ (i := 3) (N := some 51) #[true, true, true, true, true, false, false, false, false, false, false] rfl rfl (one_of HT_.out (by kernel_rfl)) (by decide) (fun K hK => ?_)
         refine goes_ Try.func17 (by kernel_rfl) rfl #[.agg #[.bool a0_0], .slice Ao45 t229.length co45] (by rfl) rfl rfl (by (try simp only [List.map_toArray, List.map_cons, List.map_nil]); first | done | rfl | (simp only [List.length_drop, List.length_take]; rfl)) ?_
         with_reducible refine (nrzi_Decode.calls k3 a0_0 _ _ t229 t232 _ ?side1 ?side2 A27.out).mono ?_
         (case side1 => repeat (first | exact (Kd.R_reads' HO231.out).2.2 | (with_reducible refine Kd.C_alloc ?_ _) | (with_reducible refine Kd.C_drewN ?_ _) | (with_reducible refine Kd.C_drew ?_)))
         (case side2 => exact (Kd.R_reads' HO231.out).2.1)
         rintro e w46 ⟨v233, rfl, ho0, hb⟩
         refine ⟨_, rfl, ?_⟩
         have n0_ := Aside0.mk (Kd.R_below (rkw HO_5.out) hb)
         have n1_ := Aside0.mk (Kd.R_below (rkw HO_7.out) hb)
         have n2_ := Aside0.mk (Kd.R_elder' (rkw HO231.out) (Kd.R_base ho0) hb)
         have n3_ := Aside0.mk (Kd.R_lower (Kd.R_new' ho0 (Kd.R_lt (rkw HO231.out))) (below_size (hbw HB.out)))
         have n4_ := Aside0.mk (blkb BK213.out hb)
         have n5_ := Aside0.mk (below_step (hbw HB.out) hb)
         clear HO_5
         clear HO_7
         clear HO231
         clear BK213
         clear HB
         have HO_5 := n0_
         have HO_7 := n1_
         have HO231 := n2_
         have HO234 := n3_
         have BK213 := n4_
         have HB := n5_
         clear n0_ n1_ n2_ n3_ n4_ n5_
         (try clear hb)
         (try clear hb2)
         (try clear hk)
         (try clear hi)
         (try clear ho0)
         obtain ⟨Ao47, co47, eo47⟩ := Kd.R_slice HO_7.out
         (first | subst eo47 | (injection eo47 with f1_ f2_ f3_; have f4_ := f1_.symm; have f5_ := f3_.symm; clear f1_ f2_ f3_; subst f4_; subst f5_))
         refine hK.out _ _ ((blk_cell BK213.out 0).trans rfl) (fun hHeld => ?_)
         clear hK K
         refine norm_ (a' := ?_) ?_ ?_
         rotate_left
         ·show Act.put _ (some 51) _ = _
          simp only [Act.put, nrm]
          rfl
         refine one_ (i := 5) (N := some 53) #[true, true, true, true, true, true, false, false, false, false, false] rfl rfl (one_of HT_.out (by kernel_rfl)) (by decide) (fun K hK => ?_)
         refine goes_ Try.func21 (by kernel_rfl) rfl #[.slice Ao47 x7_3.length co47] (by rfl) rfl rfl (by (try simp only [List.map_toArray, List.map_cons, List.map_nil]); first | done | rfl | (simp only [List.length_drop, List.length_take]; rfl)) ?_
         with_reducible refine (signalbenchlaw16_ideal.calls k3 _ _ x7_3 t235 _ ?side1 ?side2 A28.out).mono ?_
         (case side1 => repeat (first | exact (Kd.R_reads' HO_7.out).2.2 | (with_reducible refine Kd.C_alloc ?_ _) | (with_reducible refine Kd.C_drewN ?_ _) | (with_reducible refine Kd.C_drew ?_)))
         (case side2 => exact (Kd.R_reads' HO_7.out).2.1)
         rintro e w48 ⟨v236, rfl, ho0, hb⟩
         refine ⟨_, rfl, ?_⟩
         have n0_ := Aside0.mk (Kd.R_below (rkw HO_5.out) hb)
         have n1_ := Aside0.mk (Kd.R_below (rkw HO_7.out) hb)
         have n2_ := Aside0.mk (Kd.R_elder' (rkw HO231.out) (Kd.R_base ho0) hb)
         have n3_ := Aside0.mk (Kd.R_elder' (rkw HO234.out) (Kd.R_base ho0) hb)
         have n4_ := Aside0.mk (Kd.R_lower (Kd.R_new' (Kd.R_new' ho0 (Kd.R_lt (rkw HO231.out))) (Kd.R_lt (rkw HO234.out))) (below_size (hbw HB.out)))
         have n5_ := Aside0.mk (blkb BK213.out hb)
         have n6_ := Aside0.mk (below_step (hbw HB.out) hb)
         clear HO_5
         clear HO_7
         clear HO231
         clear HO234
         clear BK213
         clear HB
         have HO_5 := n0_
         have HO_7 := n1_
         have HO231 := n2_
         have HO234 := n3_
         have HO237 := n4_
         have BK213 := n5_
         have HB := n6_
         clear n0_ n1_ n2_ n3_ n4_ n5_ n6_
         (try clear hb)
         (try clear hb2)
         (try clear hk)
         (try clear hi)
         (try clear ho0)
         obtain ⟨Ao49, co49, eo49⟩ := Kd.R_slice HO234.out
         (first | subst eo49 | (injection eo49 with f1_ f2_ f3_; have f4_ := f1_.symm; have f5_ := f3_.symm; clear f1_ f2_ f3_; subst f4_; subst f5_))
         obtain ⟨Ao50, co50, eo50⟩ := Kd.R_slice HO237.out
         (first | subst eo50 | (injection eo50 with f1_ f2_ f3_; have f4_ := f1_.symm; have f5_ := f3_.symm; clear f1_ f2_ f3_; subst f4_; subst f5_))
         refine hK.out _ _ ((blk_cell BK213.out 0).trans rfl) (fun hHeld => ?_)
         clear hK K
         refine norm_ (a' := ?_) ?_ ?_
         rotate_left
         ·show Act.put _ (some 53) _ = _
          simp only [Act.put, nrm]
          rfl
         refine one_ (i := 6) (N := some 54) #[true, true, true, true, true, true, true, false, false, false, false] rfl rfl (one_of HT_.out (by kernel_rfl)) (by decide) (fun K hK => ?_)
         refine goes_ Try.func14 (by kernel_rfl) rfl #[.slice Ao49 t232.length co49, .slice Ao50 t235.length co50] (by rfl) rfl rfl (by (try simp only [List.map_toArray, List.map_cons, List.map_nil]); first | done | rfl | (simp only [List.length_drop, List.length_take]; rfl)) ?_
         with_reducible refine (signalbenchref07_Same.calls k3 _ _ t232 _ _ t235 false _ ?side1 ?side2 ?side3 ?side4 A29.out).mono ?_
         (case side1 => repeat (first | exact (Kd.R_reads' HO234.out).2.2 | (with_reducible refine Kd.C_alloc ?_ _) | (with_reducible refine Kd.C_drewN ?_ _) | (with_reducible refine Kd.C_drew ?_)))
         (case side2 => exact (Kd.R_reads' HO234.out).2.1)
         (case side3 => repeat (first | exact (Kd.R_reads' HO237.out).2.2 | (with_reducible refine Kd.C_alloc ?_ _) | (with_reducible refine Kd.C_drewN ?_ _) | (with_reducible refine Kd.C_drew ?_)))
         (case side4 => exact (Kd.R_reads' HO237.out).2.1)
         rintro e w' ⟨rfl, ⟨nd, rfl⟩⟩
         refine ⟨_, rfl, ?_⟩
         refine hK.out _ _ ((blk_cell BK213.out 0).trans rfl) (fun hHeld => ?_)
         clear hK K
         refine norm_ (a' := ?_) ?_ ?_
         rotate_left
         ·show Act.put _ (some 54) _ = _
          simp only [Act.put, nrm]
          rfl
         refine pstep 7 (some 55) #[true, true, true, true, true, true, true, true, false, false, false] HT_.out ?_
         refine pure_ (i := 8) (N := some 56) (v := undef) (a' := ?_) #[true, true, true, true, true, true, true, true, true, false, false] rfl rfl (any_of HT_.out (by kernel_rfl)) (fun _ _ _ h => h) (Or.inr ⟨by rfl, rfl⟩) ?_ ?_
         rotate_left
         ·simp only [Act.put, nrm]
          rfl
         refine pstep 9 (some 57) #[true, true, true, true, true, true, true, true, true, true, false] HT_.out ?_
         refine pstep 10 (some 4) #[true, true, true, true, true, true, true, true, true, true, true] HT_.out ?_
         refine done_ (done_of HT_.out (by kernel_rfl)) ?_
         try go_wp2
         go_ret
         exact ⟨by first | rfl | (simp [errW_none, errW_some] <;> rfl) | (simp [*, errW_none, errW_some] <;> rfl), by repeat (first | (with_reducible first | exact HB.out | apply below_alloc | apply pw_below_drewN | apply below_drew1 | refine below_set ?_ GE213.out) | exact HB.out)⟩

/-- THE ONE PURE STATEMENT of signalbenchlaw16_NrziRoundTrips: yours. -/
def signalbenchlaw16_NrziRoundTrips.Pure : Prop := ∀ (a0_0 : Bool) (l1 : List (S44)), l1.length ≤ maxLen → l1.length * 48 ≤ 140737488351232 → (∀ x ∈ l1, (Lit.int .i64 x.f0).wf = true ∧ (Lit.int .i64 x.f1).wf = true ∧ (Lit.int .i64 x.f2).wf = true ∧ x.f3.size ≤ 140737488351232 ∧ (Lit.int .i64 x.f4).wf = true) → ∃ k, signalbenchlaw16_NrziRoundTrips.f k a0_0 l1 = some true
theorem signalbenchlaw16_NrziRoundTrips.walk (P : signalbenchlaw16_NrziRoundTrips.Pure) (a0_0 : Bool) (A1 : Option Addr) (c1 : Nat) (l1 : List (S44)) (w : World) (hr1 : Kd.C k44 w A1 l1.length l1) (hc1 : l1.length ≤ c1) (w0_ : l1.length ≤ maxLen) (w1_ : l1.length * 48 ≤ 140737488351232) (w2_ : (∀ x ∈ l1, (Lit.int .i64 x.f0).wf = true ∧ (Lit.int .i64 x.f1).wf = true ∧ (Lit.int .i64 x.f2).wf = true ∧ x.f3.size ≤ 140737488351232 ∧ (Lit.int .i64 x.f4).wf = true)) :
  Calls Try.prog 4 #[.agg #[.bool a0_0], .slice A1 l1.length c1] w fun e w' => e = .returned (.bool true) ∧ Below w.heap.size w w' := by
 obtain ⟨k, h⟩ := P a0_0 l1 w0_ w1_ w2_
 refine (signalbenchlaw16_NrziRoundTrips.calls k a0_0 A1 c1 l1 true w hr1 hc1 h).mono ?_
 rintro e w' ⟨rfl, hd⟩
 exact ⟨rfl, hd⟩

end Go.Proofs.Ytjgfhccibljkbaa.PNrziRoundTrips
