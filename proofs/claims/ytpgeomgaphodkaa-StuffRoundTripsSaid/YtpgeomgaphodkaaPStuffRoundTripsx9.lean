-- Written by a program of this session (wip/tools/pr.py), which calls the kit's print with changes of its own.
import Derived.Test.YtpgeomgaphodkaaPStuffRoundTripsx0
import Derived.Test.YtpgeomgaphodkaaPStuffRoundTripsx4
import Derived.Test.YtpgeomgaphodkaaPStuffRoundTripsx5
import Derived.Test.YtpgeomgaphodkaaPStuffRoundTripsx6
import Derived.Test.YtpgeomgaphodkaaPStuffRoundTripsx7
import Derived.Test.YtpgeomgaphodkaaPStuffRoundTripsx8
namespace Go.Proofs.Ytpgeomgaphodkaa.PStuffRoundTrips
open Go.RowKit Go.Proofs.YtpgeomgaphodkaaW.PrintWords Go.Proofs.YtpgeomgaphodkaaW.PrintLast Go.Proofs.YtpgeomgaphodkaaW.PrintMore
attribute [local go_sem] max2_int min2_int max_two min_two max_three min_three max_four min_four   -- for this text's walks alone
set_option linter.unusedVariables false
set_option linter.unusedSimpArgs false

/-! ### signalbenchlaw19_StuffRoundTrips: function 5 -/
mutual
def signalbenchlaw19_StuffRoundTrips.j0 : Nat → List (S45) → Int → Bool → Option (Bool)
 | 0, _, _, _ => none
 | k + 1, x1, x224000, x224001 => (stuff_Encode.f k x224000 x224001 x1).bind fun bt226 => (if bt226.2 = 0 then (signalbenchlaw19_StuffRoundTrips.j1 k x1 bt226.1 x224000 x224001) else (if (bt226.1.length : Int) = 0 then ((signalbenchlaw19_awake.f k).bind fun t230 => (some t230)) else (some false)))
def signalbenchlaw19_StuffRoundTrips.j1 : Nat → List (S45) → List (S45) → Int → Bool → Option (Bool)
 | 0, _, _, _, _ => none
 | k + 1, x1, x5, x224000, x224001 => signalbenchlaw19_StuffRoundTrips.l0 k x1 x5 (⟨#[]⟩ : ByteArray) 0 x224000 x224001
def signalbenchlaw19_StuffRoundTrips.l0 : Nat → List (S45) → List (S45) → ByteArray → Int → Int → Bool → Option (Bool)
 | 0, _, _, _, _, _, _ => none
 | k + 1, x1, x5, x7, x8, x224000, x224001 => if x8 < (x1.length : Int) then (if 0 ≤ x8 then (if ((rd_T45 x1 x8).f4) = 0 then (if x7.size + ((rd_T45 x1 x8).f3).size ≤ 9223372036854775807 then (signalbenchlaw19_StuffRoundTrips.l0 k x1 x5 (x7 ++ ((rd_T45 x1 x8).f3)) (wrap64 (x8 + 1)) x224000 x224001) else (none)) else ((signalbenchlaw19_awake.f k).bind fun t233 => (some t233))) else (none)) else ((signalbenchlaw19_ideal.f k x5).bind fun t234 => ((stuff_Decode.f k x224000 x224001 t234).bind fun t237 => (if (t237.length : Int) = (x7.size : Int) then (signalbenchlaw19_StuffRoundTrips.j3 k x7 t237) else (some false))))
def signalbenchlaw19_StuffRoundTrips.j3 : Nat → ByteArray → List (S33) → Option (Bool)
 | 0, _, _ => none
 | k + 1, x7, x9 => signalbenchlaw19_StuffRoundTrips.l1 k x7 x9 0
def signalbenchlaw19_StuffRoundTrips.l1 : Nat → ByteArray → List (S33) → Int → Option (Bool)
 | 0, _, _, _ => none
 | k + 1, x7, x9, x10 => if x10 < (x9.length : Int) then (if 0 ≤ x10 then (if ((rd_T33 x9 x10).f6) = 0 then (if x10 < (x7.size : Int) then (if ((((rd_T33 x9 x10).f3) == 1) != ((bt x7 x10) == 49)) = true then (some false) else (signalbenchlaw19_StuffRoundTrips.l1 k x7 x9 (wrap64 (x10 + 1)))) else (none)) else (some false)) else (none)) else ((signalbenchlaw19_awake.f k).bind fun t242 => (some t242))
end
def signalbenchlaw19_StuffRoundTrips.f (k : Nat) (a0_0 : Int) (a0_1 : Bool) (l1 : List (S45)) : Option (Bool) := (signalbenchlaw19_tiny.f k l1).bind fun t224 => (if t224 = true then (signalbenchlaw19_StuffRoundTrips.j0 k l1 a0_0 a0_1) else ((signalbenchlaw19_awake.f k).bind fun t225 => (some t225)))
theorem signalbenchlaw19_StuffRoundTrips.mono_l : ∀ k, (∀ y0 y1 y2, LeO (signalbenchlaw19_StuffRoundTrips.j0 k y0 y1 y2) (signalbenchlaw19_StuffRoundTrips.j0 (k + 1) y0 y1 y2)) ∧ (∀ y0 y1 y2 y3, LeO (signalbenchlaw19_StuffRoundTrips.j1 k y0 y1 y2 y3) (signalbenchlaw19_StuffRoundTrips.j1 (k + 1) y0 y1 y2 y3)) ∧ (∀ y0 y1 y2 y3 y4 y5, LeO (signalbenchlaw19_StuffRoundTrips.l0 k y0 y1 y2 y3 y4 y5) (signalbenchlaw19_StuffRoundTrips.l0 (k + 1) y0 y1 y2 y3 y4 y5)) ∧ (∀ y0 y1, LeO (signalbenchlaw19_StuffRoundTrips.j3 k y0 y1) (signalbenchlaw19_StuffRoundTrips.j3 (k + 1) y0 y1)) ∧ (∀ y0 y1 y2, LeO (signalbenchlaw19_StuffRoundTrips.l1 k y0 y1 y2) (signalbenchlaw19_StuffRoundTrips.l1 (k + 1) y0 y1 y2))
 | 0 => ⟨fun _ _ _ r h => by simp [signalbenchlaw19_StuffRoundTrips.j0] at h, fun _ _ _ _ r h => by simp [signalbenchlaw19_StuffRoundTrips.j1] at h, fun _ _ _ _ _ _ r h => by simp [signalbenchlaw19_StuffRoundTrips.l0] at h, fun _ _ r h => by simp [signalbenchlaw19_StuffRoundTrips.j3] at h, fun _ _ _ r h => by simp [signalbenchlaw19_StuffRoundTrips.l1] at h⟩
 | k + 1 => by
  obtain ⟨ih0, ih1, ih2, ih3, ih4⟩ := signalbenchlaw19_StuffRoundTrips.mono_l k
  refine ⟨?_, ?_, ?_, ?_, ?_⟩
  ·intro y0 y1 y2
   unfold signalbenchlaw19_StuffRoundTrips.j0
   repeat' first
   | (with_reducible exact ih0 _ _ _)
   | (with_reducible exact ih1 _ _ _ _)
   | (with_reducible exact ih2 _ _ _ _ _ _)
   | (with_reducible exact ih3 _ _)
   | (with_reducible exact ih4 _ _ _)
   | (with_reducible exact signalbenchlaw19_awake.mono _)
   | (with_reducible exact signalbenchlaw19_ideal.mono _ _)
   | (with_reducible exact signalbenchlaw19_tiny.mono _ _)
   | (with_reducible exact stuff_Decode.mono _ _ _ _)
   | (with_reducible exact stuff_Encode.mono _ _ _ _)
   | (with_reducible exact LeO.refl _)
   | (with_reducible exact LeO.none _)
   | (with_reducible refine LeO.ite ?_ ?_)
   | (with_reducible refine LeO.bind ?_ (fun _ => ?_))
   | exact ih0 _ _ _
   | exact ih1 _ _ _ _
   | exact ih2 _ _ _ _ _ _
   | exact ih3 _ _
   | exact ih4 _ _ _
   | exact signalbenchlaw19_awake.mono _
   | exact signalbenchlaw19_ideal.mono _ _
   | exact signalbenchlaw19_tiny.mono _ _
   | exact stuff_Decode.mono _ _ _ _
   | exact stuff_Encode.mono _ _ _ _
   | exact LeO.none _
   | refine LeO.ite ?_ ?_
   | refine LeO.bind ?_ (fun _ => ?_)
  ·intro y0 y1 y2 y3
   unfold signalbenchlaw19_StuffRoundTrips.j1
   repeat' first
   | (with_reducible exact ih0 _ _ _)
   | (with_reducible exact ih1 _ _ _ _)
   | (with_reducible exact ih2 _ _ _ _ _ _)
   | (with_reducible exact ih3 _ _)
   | (with_reducible exact ih4 _ _ _)
   | (with_reducible exact signalbenchlaw19_awake.mono _)
   | (with_reducible exact signalbenchlaw19_ideal.mono _ _)
   | (with_reducible exact signalbenchlaw19_tiny.mono _ _)
   | (with_reducible exact stuff_Decode.mono _ _ _ _)
   | (with_reducible exact stuff_Encode.mono _ _ _ _)
   | (with_reducible exact LeO.refl _)
   | (with_reducible exact LeO.none _)
   | (with_reducible refine LeO.ite ?_ ?_)
   | (with_reducible refine LeO.bind ?_ (fun _ => ?_))
   | exact ih0 _ _ _
   | exact ih1 _ _ _ _
   | exact ih2 _ _ _ _ _ _
   | exact ih3 _ _
   | exact ih4 _ _ _
   | exact signalbenchlaw19_awake.mono _
   | exact signalbenchlaw19_ideal.mono _ _
   | exact signalbenchlaw19_tiny.mono _ _
   | exact stuff_Decode.mono _ _ _ _
   | exact stuff_Encode.mono _ _ _ _
   | exact LeO.none _
   | refine LeO.ite ?_ ?_
   | refine LeO.bind ?_ (fun _ => ?_)
  ·intro y0 y1 y2 y3 y4 y5
   unfold signalbenchlaw19_StuffRoundTrips.l0
   repeat' first
   | (with_reducible exact ih0 _ _ _)
   | (with_reducible exact ih1 _ _ _ _)
   | (with_reducible exact ih2 _ _ _ _ _ _)
   | (with_reducible exact ih3 _ _)
   | (with_reducible exact ih4 _ _ _)
   | (with_reducible exact signalbenchlaw19_awake.mono _)
   | (with_reducible exact signalbenchlaw19_ideal.mono _ _)
   | (with_reducible exact signalbenchlaw19_tiny.mono _ _)
   | (with_reducible exact stuff_Decode.mono _ _ _ _)
   | (with_reducible exact stuff_Encode.mono _ _ _ _)
   | (with_reducible exact LeO.refl _)
   | (with_reducible exact LeO.none _)
   | (with_reducible refine LeO.ite ?_ ?_)
   | (with_reducible refine LeO.bind ?_ (fun _ => ?_))
   | exact ih0 _ _ _
   | exact ih1 _ _ _ _
   | exact ih2 _ _ _ _ _ _
   | exact ih3 _ _
   | exact ih4 _ _ _
   | exact signalbenchlaw19_awake.mono _
   | exact signalbenchlaw19_ideal.mono _ _
   | exact signalbenchlaw19_tiny.mono _ _
   | exact stuff_Decode.mono _ _ _ _
   | exact stuff_Encode.mono _ _ _ _
   | exact LeO.none _
   | refine LeO.ite ?_ ?_
   | refine LeO.bind ?_ (fun _ => ?_)
  ·intro y0 y1
   unfold signalbenchlaw19_StuffRoundTrips.j3
   repeat' first
   | (with_reducible exact ih0 _ _ _)
   | (with_reducible exact ih1 _ _ _ _)
   | (with_reducible exact ih2 _ _ _ _ _ _)
   | (with_reducible exact ih3 _ _)
   | (with_reducible exact ih4 _ _ _)
   | (with_reducible exact signalbenchlaw19_awake.mono _)
   | (with_reducible exact signalbenchlaw19_ideal.mono _ _)
   | (with_reducible exact signalbenchlaw19_tiny.mono _ _)
   | (with_reducible exact stuff_Decode.mono _ _ _ _)
   | (with_reducible exact stuff_Encode.mono _ _ _ _)
   | (with_reducible exact LeO.refl _)
   | (with_reducible exact LeO.none _)
   | (with_reducible refine LeO.ite ?_ ?_)
   | (with_reducible refine LeO.bind ?_ (fun _ => ?_))
   | exact ih0 _ _ _
   | exact ih1 _ _ _ _
   | exact ih2 _ _ _ _ _ _
   | exact ih3 _ _
   | exact ih4 _ _ _
   | exact signalbenchlaw19_awake.mono _
   | exact signalbenchlaw19_ideal.mono _ _
   | exact signalbenchlaw19_tiny.mono _ _
   | exact stuff_Decode.mono _ _ _ _
   | exact stuff_Encode.mono _ _ _ _
   | exact LeO.none _
   | refine LeO.ite ?_ ?_
   | refine LeO.bind ?_ (fun _ => ?_)
  ·intro y0 y1 y2
   unfold signalbenchlaw19_StuffRoundTrips.l1
   repeat' first
   | (with_reducible exact ih0 _ _ _)
   | (with_reducible exact ih1 _ _ _ _)
   | (with_reducible exact ih2 _ _ _ _ _ _)
   | (with_reducible exact ih3 _ _)
   | (with_reducible exact ih4 _ _ _)
   | (with_reducible exact signalbenchlaw19_awake.mono _)
   | (with_reducible exact signalbenchlaw19_ideal.mono _ _)
   | (with_reducible exact signalbenchlaw19_tiny.mono _ _)
   | (with_reducible exact stuff_Decode.mono _ _ _ _)
   | (with_reducible exact stuff_Encode.mono _ _ _ _)
   | (with_reducible exact LeO.refl _)
   | (with_reducible exact LeO.none _)
   | (with_reducible refine LeO.ite ?_ ?_)
   | (with_reducible refine LeO.bind ?_ (fun _ => ?_))
   | exact ih0 _ _ _
   | exact ih1 _ _ _ _
   | exact ih2 _ _ _ _ _ _
   | exact ih3 _ _
   | exact ih4 _ _ _
   | exact signalbenchlaw19_awake.mono _
   | exact signalbenchlaw19_ideal.mono _ _
   | exact signalbenchlaw19_tiny.mono _ _
   | exact stuff_Decode.mono _ _ _ _
   | exact stuff_Encode.mono _ _ _ _
   | exact LeO.none _
   | refine LeO.ite ?_ ?_
   | refine LeO.bind ?_ (fun _ => ?_)
theorem signalbenchlaw19_StuffRoundTrips.mono : ∀ a0 a1 a2 k, LeO (signalbenchlaw19_StuffRoundTrips.f k a0 a1 a2) (signalbenchlaw19_StuffRoundTrips.f (k + 1) a0 a1 a2) := by
 intro a0 a1 a2 k
 obtain ⟨ih0, ih1, ih2, ih3, ih4⟩ := signalbenchlaw19_StuffRoundTrips.mono_l k
 unfold signalbenchlaw19_StuffRoundTrips.f
 repeat' first
   | (with_reducible exact ih0 _ _ _)
   | (with_reducible exact ih1 _ _ _ _)
   | (with_reducible exact ih2 _ _ _ _ _ _)
   | (with_reducible exact ih3 _ _)
   | (with_reducible exact ih4 _ _ _)
   | (with_reducible exact signalbenchlaw19_awake.mono _)
   | (with_reducible exact signalbenchlaw19_ideal.mono _ _)
   | (with_reducible exact signalbenchlaw19_tiny.mono _ _)
   | (with_reducible exact stuff_Decode.mono _ _ _ _)
   | (with_reducible exact stuff_Encode.mono _ _ _ _)
   | (with_reducible exact LeO.refl _)
   | (with_reducible exact LeO.none _)
   | (with_reducible refine LeO.ite ?_ ?_)
   | (with_reducible refine LeO.bind ?_ (fun _ => ?_))
   | exact ih0 _ _ _
   | exact ih1 _ _ _ _
   | exact ih2 _ _ _ _ _ _
   | exact ih3 _ _
   | exact ih4 _ _ _
   | exact signalbenchlaw19_awake.mono _
   | exact signalbenchlaw19_ideal.mono _ _
   | exact signalbenchlaw19_tiny.mono _ _
   | exact stuff_Decode.mono _ _ _ _
   | exact stuff_Encode.mono _ _ _ _
   | exact LeO.none _
   | refine LeO.ite ?_ ?_
   | refine LeO.bind ?_ (fun _ => ?_)
def signalbenchlaw19_StuffRoundTrips.T19 : Bool × List (List Nat × List Nat) := (true, [([], []), ([], []), ([0, 1], [0, 1]), ([2], [2]), ([3], [3]), ([4], [4]), ([5], [5]), ([6], [6]), ([6], [6]), ([7, 8, 6], [6, 7, 8]), ([9, 6], [6, 9]), ([10, 6], [6, 10]), ([11, 6], [6, 11]), ([6], [6]), ([6], [6]), ([13, 14, 6], [6, 13, 14]), ([15, 6], [6, 15]), ([12, 16, 6], [6, 12, 16]), ([6, 17], [6, 17])])
def signalbenchlaw19_StuffRoundTrips.B19 : List Nat := [0, 0, 3, 7, 15, 31, 63, 127, 127, 511, 1023, 2047, 4095, 127, 127, 24703, 57471, 131071, 262143]
theorem signalbenchlaw19_StuffRoundTrips.tab19 : rtab .any (opsOf Try.f5 19) = signalbenchlaw19_StuffRoundTrips.T19 := by kernel_rfl
theorem signalbenchlaw19_StuffRoundTrips.bits19 : waitsOk signalbenchlaw19_StuffRoundTrips.T19.2 signalbenchlaw19_StuffRoundTrips.B19 = true := by kernel_rfl
set_option maxHeartbeats 8000000 in
set_option maxRecDepth 100000 in
theorem signalbenchlaw19_StuffRoundTrips.calls (k : Nat) (a0_0 : Int) (a0_1 : Bool) (A1 : Option Addr) (c1 : Nat) (l1 : List (S45)) (r : Bool) (w : World) (hr1 : Kd.C k45 w A1 l1.length l1) (hc1 : l1.length ≤ c1) (h : signalbenchlaw19_StuffRoundTrips.f k a0_0 a0_1 l1 = some r) :
  Calls Try.prog 5 #[.agg #[.int .i64 a0_0, .bool a0_1], .slice A1 l1.length c1] w fun e w' => e = .returned (.bool r) ∧ Below w.heap.size w w' := by
 have hu23 := Try.underlying23
 have HR1 := Aside0.mk hr1
 have HC1 := Aside0.mk hc1
 clear hr1 hc1
 have HB := Aside0.mk (Below.refl w.heap.size w)
 have H : ((signalbenchlaw19_tiny.f k l1).bind fun t224 => (if t224 = true then (signalbenchlaw19_StuffRoundTrips.j0 k l1 a0_0 a0_1) else ((signalbenchlaw19_awake.f k).bind fun t225 => (some t225)))) = some r := h
 clear h
 replace H := Option.bind_eq_some_iff.mp H
 obtain ⟨t224, A30, H⟩ := H
 replace H : (if t224 = true then (signalbenchlaw19_StuffRoundTrips.j0 k l1 a0_0 a0_1) else ((signalbenchlaw19_awake.f k).bind fun t225 => (some t225))) = some r := H
 have A3 := Aside0.mk A30
 clear A30
 have HC4 := Aside0.mk H
 clear H
 go_enter Try.func5, Try.ntmps5
 go_upto_if 13 with (first | ((with_reducible refine gate_dst (N := 2) rfl ?_); refine box_event ?hg (N := 2) ?hd (cs := #[.int .i64 a0_0, .bool a0_1]) (t := 23) ?hr ?_; (case hd => rfl); (case hg => rfl); (case hr => first | (go_simp; done) | (go_simp; rfl)); intro gb223 hg w5 hbox hb; have n0_ := Aside0.mk (below_step (hbw HB.out) hb); have n1_ := Aside0.mk (hbox); have n2_ := Aside0.mk ((by rw [hg]; exact (below_size (hbw HB.out)) : w.heap.size ≤ gb223)); have n3_ := Aside0.mk ((by rw [hg]; exact (below_size (hbw HB.out)) : w.heap.size ≤ gb223)); clear HB; have HB := n0_; have BK223 := n1_; have GW223 := n2_; have GE223 := n3_; clear n0_ n1_ n2_ n3_; clear hb hbox hg) | ((with_reducible refine gate_callee (f := 20) rfl ?_); refine goesL_ (some 12) rfl rfl Try.func20 (by kernel_rfl) rfl #[.slice A1 l1.length c1] rfl (by (try simp only [List.map_toArray, List.map_cons, List.map_nil]); first | done | rfl | (simp only [List.length_drop, List.length_take]; rfl)) ?_; (with_reducible refine (signalbenchlaw19_tiny.calls k _ _ l1 t224 _ ?side1 ?side2 A3.out).mono ?_); (case side1 => repeat (first | exact (Kd.C_below HR1.out HB.out) | (with_reducible refine Kd.C_alloc ?_ _) | (with_reducible refine Kd.C_drewN ?_ _) | (with_reducible refine Kd.C_drew ?_))); (case side2 => exact HC1.out); rintro e w' ⟨rfl, ⟨nd, rfl⟩⟩; refine ⟨_, rfl, ?_⟩))
 (try simp only [Act.put, List.setIfInBounds_toArray, List.set_cons_zero, List.set_cons_succ])
 go_cut [] (fun wc => ∃ (kq : Nat), Aside0 (signalbenchlaw19_StuffRoundTrips.j0 kq l1 a0_0 a0_1 = some r) ∧ Aside0 (kq ≤ k) ∧ Aside0 (wc.heap[gb223]? = some (.cells #[.int .i64 a0_0, .bool a0_1] 23 (0, 0))) ∧ Aside0 (Below w.heap.size w wc))
 case first =>
  have H := HC4.out
  clear HC4
  by_cases c6 : t224 = true
  ·subst c6
   have H1 : (signalbenchlaw19_StuffRoundTrips.j0 k l1 a0_0 a0_1) = some r := by rw [if_pos rfl] at H; exact H
   clear H
   have H := H1
   clear H1
   have H' := Aside0.mk H
   clear H
   go_wp2
   go_meet
   case rel => exact ⟨_, H', ⟨by first | omega | exact Nat.le_refl _⟩, ⟨by (with_reducible repeat (first | refine blk_drewN ?_ _ | refine blk_drew ?_ | refine blk_alloc ?_ _)); exact BK223.out⟩, ⟨by repeat (first | (with_reducible first | exact HB.out | apply below_alloc | apply pw_below_drewN | apply below_drew1 | refine below_set ?_ GE223.out) | exact HB.out)⟩⟩
  ·replace c6 := Bool.eq_false_iff.mpr c6
   subst c6
   have H1 : ((signalbenchlaw19_awake.f k).bind fun t225 => (some t225)) = some r := by rw [if_neg (show ¬ (false = true) by decide)] at H; exact H
   clear H
   have H := H1
   clear H1
   replace H := Option.bind_eq_some_iff.mp H
   obtain ⟨t225, A70, H⟩ := H
   replace H : (some t225) = some r := H
   have A7 := Aside0.mk A70
   clear A70
   obtain rfl := Option.some.inj H
   go_wp2_with (first | ((with_reducible refine gate_callee (f := 9) rfl ?_); refine goesL_ (some 14) rfl rfl Try.func9 (by kernel_rfl) rfl #[] rfl (by (try simp only [List.map_toArray, List.map_cons, List.map_nil]); first | done | rfl | (simp only [List.length_drop, List.length_take]; rfl)) ?_; (with_reducible refine (signalbenchlaw19_awake.calls k  t225 _ A7.out).mono ?_); rintro e w8 ⟨rfl, hb⟩; refine ⟨_, rfl, ?_⟩; have n0_ := Aside0.mk (blkb BK223.out hb); have n1_ := Aside0.mk (below_step (hbw HB.out) hb); clear BK223; clear HB; have BK223 := n0_; have HB := n1_; clear n0_ n1_; (try clear hb); (try clear hb2); (try clear hk); (try clear hi)))
   go_ret
   exact ⟨by first | rfl | (simp [errW_none, errW_some] <;> rfl) | (simp [*, errW_none, errW_some] <;> rfl), by repeat (first | (with_reducible first | exact HB.out | apply below_alloc | apply pw_below_drewN | apply below_drew1 | refine below_set ?_ GE223.out) | exact HB.out)⟩
 case rest =>
  clear HC4
  try clear c1
  try clear c2
  try clear p2
  try clear c5
  try clear c6
  obtain ⟨kq, HA, HJ3, BK223, HB⟩ := hcut
  cases kq with
  | zero => exact absurd HA.out (by simp [signalbenchlaw19_StuffRoundTrips.j0])
  | succ kj3 =>
   have H := HA.out
   clear HA
   simp only [signalbenchlaw19_StuffRoundTrips.j0] at H
   replace H := Option.bind_eq_some_iff.mp H
   obtain ⟨⟨t226, t229⟩, A90, H⟩ := H
   replace H : (if t229 = 0 then (signalbenchlaw19_StuffRoundTrips.j1 kj3 l1 t226 a0_0 a0_1) else (if (t226.length : Int) = 0 then ((signalbenchlaw19_awake.f kj3).bind fun t230 => (some t230)) else (some false))) = some r := H
   have A9 := Aside0.mk A90
   clear A90
   have HC10 := Aside0.mk H
   clear H
   have hcz11_0 : wc.cell? ⟨gb223, 0, none⟩ = some (.int .i64 a0_0) := (blk_cell BK223.out 0).trans rfl
   have hcz11_1 : wc.cell? ⟨gb223, 1, none⟩ = some (.bool a0_1) := (blk_cell BK223.out 1).trans rfl
   have hfz11_0 := blk_frozen BK223.out 0
   have hfz11_1 := blk_frozen BK223.out 1
   go_upto_if 22 with (first | ((with_reducible refine gate_callee (f := 21) rfl ?_); refine goesL_ (some 18) rfl rfl Try.func21 (by kernel_rfl) rfl #[.agg #[.int .i64 a0_0, .bool a0_1], .slice A1 l1.length c1] rfl (by (try simp only [List.map_toArray, List.map_cons, List.map_nil]); first | done | rfl | (simp only [List.length_drop, List.length_take]; rfl)) ?_; (with_reducible refine (stuff_Encode.calls kj3 a0_0 a0_1 _ _ l1 t226 t229 _ ?side1 ?side2 A9.out).mono ?_); (case side1 => repeat (first | exact (Kd.C_below HR1.out HB.out) | (with_reducible refine Kd.C_alloc ?_ _) | (with_reducible refine Kd.C_drewN ?_ _) | (with_reducible refine Kd.C_drew ?_))); (case side2 => exact HC1.out); rintro e w12 ⟨v227, rfl, ho0, hb⟩; refine ⟨_, rfl, ?_⟩; have n0_ := Aside0.mk (Kd.R_lower ho0 (below_size (hbw HB.out))); have n1_ := Aside0.mk (blkb BK223.out hb); have n2_ := Aside0.mk (below_step (hbw HB.out) hb); clear BK223; clear HB; have HO228 := n0_; have BK223 := n1_; have HB := n2_; clear n0_ n1_ n2_; (try clear hb); (try clear hb2); (try clear hk); (try clear hi); (try clear ho0)))
   (try simp only [Act.put, List.setIfInBounds_toArray, List.set_cons_zero, List.set_cons_succ])
   go_cut [] (fun wc => ∃ (kq : Nat), Aside0 (signalbenchlaw19_StuffRoundTrips.j1 kq l1 t226 a0_0 a0_1 = some r) ∧ Aside0 (kq ≤ kj3) ∧ Aside0 (Kd.R k45 45 wc w.heap.size (fun _ => True) v227 t226) ∧ Aside0 (wc.heap[gb223]? = some (.cells #[.int .i64 a0_0, .bool a0_1] 23 (0, 0))) ∧ Aside0 (Below w.heap.size w wc))
   case first =>
    have H := HC10.out
    clear HC10
    by_cases c13 : t229 = 0
    ·rw [if_pos c13] at H
     have c13b0 : (t229 == 0) = true := beq_iff_eq.mpr c13
     have c13b1 : (t229 != 0) = false := bne_eq_false_iff_eq.mpr c13
     clear c13
     (first | rw [c13b0] | (simp only [i64_w, i32_w]; rw [c13b0]) | skip)
     have H' := Aside0.mk H
     clear H
     go_wp2
     go_meet
     case rel => exact ⟨_, H', ⟨by have := HJ3.out; first | omega | exact Nat.le_refl _⟩, ⟨by (with_reducible repeat (first | apply Kd.R_alloc | apply Kd.R_drewN | apply Kd.R_drew)); exact HO228.out⟩, ⟨by (with_reducible repeat (first | refine blk_drewN ?_ _ | refine blk_drew ?_ | refine blk_alloc ?_ _)); exact BK223.out⟩, ⟨by repeat (first | (with_reducible first | exact HB.out | apply below_alloc | apply pw_below_drewN | apply below_drew1 | refine below_set ?_ GE223.out) | exact HB.out)⟩⟩
    ·rw [if_neg c13] at H
     have c13b0 : (t229 == 0) = false := beq_eq_false_iff_ne.mpr c13
     have c13b1 : (t229 != 0) = true := bne_iff_ne.mpr c13
     (first | rw [c13b0] | (simp only [i64_w, i32_w]; rw [c13b0]) | skip)
     by_cases c14 : (t226.length : Int) = 0
     ·rw [if_pos c14] at H
      have c14b0 : ((t226.length : Int) == 0) = true := beq_iff_eq.mpr c14
      have c14b1 : ((t226.length : Int) != 0) = false := bne_eq_false_iff_eq.mpr c14
      clear c14
      replace H := Option.bind_eq_some_iff.mp H
      obtain ⟨t230, A150, H⟩ := H
      replace H : (some t230) = some r := H
      have A15 := Aside0.mk A150
      clear A150
      obtain rfl := Option.some.inj H
      obtain ⟨Ao16, co16, eo16⟩ := Kd.R_slice HO228.out
      subst eo16
      go_wp2_with (first | (go_at_call 9; (with_reducible refine (signalbenchlaw19_awake.calls kj3  t230 _ A15.out).mono ?_); rintro e w17 ⟨rfl, hb⟩; have n0_ := Aside0.mk (Kd.R_below (rkw HO228.out) hb); have n1_ := Aside0.mk (blkb BK223.out hb); have n2_ := Aside0.mk (below_step (hbw HB.out) hb); clear HO228; clear BK223; clear HB; have HO228 := n0_; have BK223 := n1_; have HB := n2_; clear n0_ n1_ n2_; (try clear hb); (try clear hb2); (try clear hk); (try clear hi)))
      go_ret
      exact ⟨by first | rfl | (simp [errW_none, errW_some] <;> rfl) | (simp [*, errW_none, errW_some] <;> rfl), by repeat (first | (with_reducible first | exact HB.out | apply below_alloc | apply pw_below_drewN | apply below_drew1 | refine below_set ?_ GE223.out) | exact HB.out)⟩
     ·rw [if_neg c14] at H
      have c14b0 : ((t226.length : Int) == 0) = false := beq_eq_false_iff_ne.mpr c14
      have c14b1 : ((t226.length : Int) != 0) = true := bne_iff_ne.mpr c14
      have c14b2 : ¬ (t226 = []) := fun h_ => c14 (by rw [h_]; rfl)
      obtain rfl := Option.some.inj H
      obtain ⟨Ao18, co18, eo18⟩ := Kd.R_slice HO228.out
      subst eo18
      go_wp2
      go_ret
      exact ⟨by first | rfl | (simp [errW_none, errW_some] <;> rfl) | (simp [*, errW_none, errW_some] <;> rfl), by repeat (first | (with_reducible first | exact HB.out | apply below_alloc | apply pw_below_drewN | apply below_drew1 | refine below_set ?_ GE223.out) | exact HB.out)⟩
   case rest =>
    clear HC10
    try clear c1
    try clear c2
    try clear p2
    try clear c5
    try clear c6
    try clear c9
    try clear c13
    try clear c13b0
    try clear c13b1
    try clear c14
    try clear c14b0
    try clear c14b1
    try clear c14b2
    try clear hcz11_0
    try clear hcz11_1
    try clear hfz11_0
    try clear hfz11_1
    try clear p2
    obtain ⟨kq, HA, HJ9, HO_5, BK223, HB⟩ := hcut
    cases kq with
    | zero => exact absurd HA.out (by simp [signalbenchlaw19_StuffRoundTrips.j1])
    | succ kj9 =>
     have H := HA.out
     clear HA
     simp only [signalbenchlaw19_StuffRoundTrips.j1] at H
     have H' := Aside0.mk H
     clear H
     go_wp2
     go_loopg [7, 8] kj9 (fun kq v7 v8 w' => ∃ (x7_3 : ByteArray) (x8_3 : Int), v7 = .string x7_3 ∧ v8 = .int .i64 x8_3 ∧ Aside0 (signalbenchlaw19_StuffRoundTrips.l0 kq l1 t226 x7_3 x8_3 a0_0 a0_1 = some r) ∧ Aside0 (kq ≤ kj9) ∧ Aside0 (Kd.R k45 45 w' w.heap.size (fun _ => True) v227 t226) ∧ Aside0 (w'.heap[gb223]? = some (.cells #[.int .i64 a0_0, .bool a0_1] 23 (0, 0))) ∧ Aside0 (Below w.heap.size w w'))
     case atStart => exact ⟨((⟨#[]⟩ : ByteArray)), (0), (by first | rfl | (simp; done) | (simp [*]; done)), (by first | rfl | (simp; done) | (simp [*]; done)), H', ⟨Nat.le_refl _⟩, ⟨by (with_reducible repeat (first | apply Kd.R_alloc | apply Kd.R_drewN | apply Kd.R_drew)); exact HO_5.out⟩, ⟨by (with_reducible repeat (first | refine blk_drewN ?_ _ | refine blk_drew ?_ | refine blk_alloc ?_ _)); exact BK223.out⟩, ⟨by repeat (first | (with_reducible first | exact HB.out | apply below_alloc | apply pw_below_drewN | apply below_drew1 | refine below_set ?_ GE223.out) | exact HB.out)⟩⟩
     case round =>
      clear H'
      try clear c1
      try clear c2
      try clear p2
      try clear c5
      try clear c6
      try clear c9
      try clear c13
      try clear c13b0
      try clear c13b1
      try clear c14
      try clear c14b0
      try clear c14b1
      try clear c14b2
      try clear hcz11_0
      try clear hcz11_1
      try clear hfz11_0
      try clear hfz11_1
      try clear p2
      obtain ⟨x7_3, x8_3, rfl, rfl, HA, HK3, HO_5, BK223, HB⟩ := hrel
      cases gk with
      | zero => exact absurd HA.out (by simp [signalbenchlaw19_StuffRoundTrips.l0])
      | succ k3 =>
       have H := HA.out
       clear HA
       simp only [signalbenchlaw19_StuffRoundTrips.l0] at H
       by_cases c19 : x8_3 < (l1.length : Int)
       ·rw [if_pos c19] at H
        have c19b0 : decide (x8_3 < (l1.length : Int)) = true := decide_eq_true c19
        clear c19
        by_cases c20 : 0 ≤ x8_3
        ·rw [if_pos c20] at H
         have c20b0 : decide (0 ≤ x8_3) = true := decide_eq_true c20
         clear c20
         by_cases c21 : ((rd_T45 l1 x8_3).f4) = 0
         ·rw [if_pos c21] at H
          have c21b0 : (((rd_T45 l1 x8_3).f4) == 0) = true := beq_iff_eq.mpr c21
          have c21b1 : (((rd_T45 l1 x8_3).f4) != 0) = false := bne_eq_false_iff_eq.mpr c21
          clear c21
          by_cases c22 : x7_3.size + ((rd_T45 l1 x8_3).f3).size ≤ 9223372036854775807
          ·rw [if_pos c22] at H
           have c22b0 := eq_true c22
           have c22b1 : decide (x7_3.size + ((rd_T45 l1 x8_3).f3).size ≤ 9223372036854775807) = true := decide_eq_true c22
           try have c22b2 : (9223372036854775807 < x7_3.size + ((rd_T45 l1 x8_3).f3).size) = False := eq_false (Nat.not_lt.2 c22)
           have H' := Aside0.mk H
           clear H
           have p231 : 0 ≤ (x8_3 : Int) := of_decide_eq_true (by first | (with_reducible assumption) | assumption)
           have q231 : x8_3 < (l1.length : Int) := of_decide_eq_true (by first | (with_reducible assumption) | assumption)
           obtain ⟨ad231, e231, hx231_0, hx231_1, hx231_2, hx231_3, hx231_4⟩ := at_T45 HR1.out x8_3 p231 q231
           cases e231
           replace hx231_0 := (HB.out.cell (World.block_lt_of_cell? w _ hx231_0)).trans hx231_0
           replace hx231_1 := (HB.out.cell (World.block_lt_of_cell? w _ hx231_1)).trans hx231_1
           replace hx231_2 := (HB.out.cell (World.block_lt_of_cell? w _ hx231_2)).trans hx231_2
           replace hx231_3 := (HB.out.cell (World.block_lt_of_cell? w _ hx231_3)).trans hx231_3
           replace hx231_4 := (HB.out.cell (World.block_lt_of_cell? w _ hx231_4)).trans hx231_4
           replace p231 := eq_true p231
           replace q231 := eq_true q231
           have p232 : 0 ≤ (x8_3 : Int) := of_decide_eq_true (by first | (with_reducible assumption) | assumption)
           have q232 : x8_3 < (l1.length : Int) := of_decide_eq_true (by first | (with_reducible assumption) | assumption)
           obtain ⟨ad232, e232, hx232_0, hx232_1, hx232_2, hx232_3, hx232_4⟩ := at_T45 HR1.out x8_3 p232 q232
           obtain rfl : ad231 = ad232 := (by injection e232)
           replace hx232_0 := (HB.out.cell (World.block_lt_of_cell? w _ hx232_0)).trans hx232_0
           replace hx232_1 := (HB.out.cell (World.block_lt_of_cell? w _ hx232_1)).trans hx232_1
           replace hx232_2 := (HB.out.cell (World.block_lt_of_cell? w _ hx232_2)).trans hx232_2
           replace hx232_3 := (HB.out.cell (World.block_lt_of_cell? w _ hx232_3)).trans hx232_3
           replace hx232_4 := (HB.out.cell (World.block_lt_of_cell? w _ hx232_4)).trans hx232_4
           replace p232 := eq_true p232
           replace q232 := eq_true q232
           go_wp2
           go_roundg k3
           case measure => have := HJ3.out; have := HJ9.out; have := HK3.out; omega
           case rel => exact ⟨(x7_3 ++ ((rd_T45 l1 x8_3).f3)), (wrap64 (x8_3 + 1)), (by first | rfl | (simp; done) | (simp [*]; done)), (by first | rfl | (simp; done) | (simp [*]; done)), H', ⟨by have := HJ3.out; have := HJ9.out; have := HK3.out; omega⟩, ⟨by (with_reducible repeat (first | apply Kd.R_alloc | apply Kd.R_drewN | apply Kd.R_drew)); exact HO_5.out⟩, ⟨by (with_reducible repeat (first | refine blk_drewN ?_ _ | refine blk_drew ?_ | refine blk_alloc ?_ _)); exact BK223.out⟩, ⟨by repeat (first | (with_reducible first | exact HB.out | apply below_alloc | apply pw_below_drewN | apply below_drew1 | refine below_set ?_ GE223.out) | exact HB.out)⟩⟩
          ·rw [if_neg c22] at H
           exact absurd H (by simp)
         ·rw [if_neg c21] at H
          have c21b0 : (((rd_T45 l1 x8_3).f4) == 0) = false := beq_eq_false_iff_ne.mpr c21
          have c21b1 : (((rd_T45 l1 x8_3).f4) != 0) = true := bne_iff_ne.mpr c21
          replace H := Option.bind_eq_some_iff.mp H
          obtain ⟨t233, A230, H⟩ := H
          replace H : (some t233) = some r := H
          have A23 := Aside0.mk A230
          clear A230
          obtain rfl := Option.some.inj H
          have p231 : 0 ≤ (x8_3 : Int) := of_decide_eq_true (by first | (with_reducible assumption) | assumption)
          have q231 : x8_3 < (l1.length : Int) := of_decide_eq_true (by first | (with_reducible assumption) | assumption)
          obtain ⟨ad231, e231, hx231_0, hx231_1, hx231_2, hx231_3, hx231_4⟩ := at_T45 HR1.out x8_3 p231 q231
          cases e231
          replace hx231_0 := (HB.out.cell (World.block_lt_of_cell? w _ hx231_0)).trans hx231_0
          replace hx231_1 := (HB.out.cell (World.block_lt_of_cell? w _ hx231_1)).trans hx231_1
          replace hx231_2 := (HB.out.cell (World.block_lt_of_cell? w _ hx231_2)).trans hx231_2
          replace hx231_3 := (HB.out.cell (World.block_lt_of_cell? w _ hx231_3)).trans hx231_3
          replace hx231_4 := (HB.out.cell (World.block_lt_of_cell? w _ hx231_4)).trans hx231_4
          replace p231 := eq_true p231
          replace q231 := eq_true q231
          go_wp2_with (first | ((with_reducible refine gate_callee (f := 9) rfl ?_); refine goesL_ (some 41) rfl rfl Try.func9 (by kernel_rfl) rfl #[] rfl (by (try simp only [List.map_toArray, List.map_cons, List.map_nil]); first | done | rfl | (simp only [List.length_drop, List.length_take]; rfl)) ?_; (with_reducible refine (signalbenchlaw19_awake.calls k3  t233 _ A23.out).mono ?_); rintro e w24 ⟨rfl, hb⟩; refine ⟨_, rfl, ?_⟩; have n0_ := Aside0.mk (Kd.R_below (rkw HO_5.out) hb); have n1_ := Aside0.mk (blkb BK223.out hb); have n2_ := Aside0.mk (below_step (hbw HB.out) hb); clear HO_5; clear BK223; clear HB; have HO_5 := n0_; have BK223 := n1_; have HB := n2_; clear n0_ n1_ n2_; (try clear hb); (try clear hb2); (try clear hk); (try clear hi)))
          go_ret
          exact ⟨by first | rfl | (simp [errW_none, errW_some] <;> rfl) | (simp [*, errW_none, errW_some] <;> rfl), by repeat (first | (with_reducible first | exact HB.out | apply below_alloc | apply pw_below_drewN | apply below_drew1 | refine below_set ?_ GE223.out) | exact HB.out)⟩
        ·rw [if_neg c20] at H
         exact absurd H (by simp)
       ·rw [if_neg c19] at H
        have c19b0 : decide (x8_3 < (l1.length : Int)) = false := decide_eq_false c19
        clear c19
        replace H := Option.bind_eq_some_iff.mp H
        obtain ⟨t234, A250, H⟩ := H
        replace H : ((stuff_Decode.f k3 a0_0 a0_1 t234).bind fun t237 => (if (t237.length : Int) = (x7_3.size : Int) then (signalbenchlaw19_StuffRoundTrips.j3 k3 x7_3 t237) else (some false))) = some r := H
        have A25 := Aside0.mk A250
        clear A250
        replace H := Option.bind_eq_some_iff.mp H
        obtain ⟨t237, A260, H⟩ := H
        replace H : (if (t237.length : Int) = (x7_3.size : Int) then (signalbenchlaw19_StuffRoundTrips.j3 k3 x7_3 t237) else (some false)) = some r := H
        have A26 := Aside0.mk A260
        clear A260
        have HC27 := Aside0.mk H
        clear H
        try go_wp2
        have n0_ := Aside0.mk (Kd.R_drew HO_5.out)
        have n1_ := Aside0.mk (blk_drew BK223.out)
        have n2_ := Aside0.mk (below_drew1 HB.out)
        clear HO_5
        clear BK223
        clear HB
        have HO_5 := n0_
        have BK223 := n1_
        have HB := n2_
        clear n0_ n1_ n2_
        obtain ⟨Ao29, co29, eo29⟩ := Kd.R_slice HO_5.out
        (first | subst eo29 | (injection eo29 with f1_ f2_ f3_; have f4_ := f1_.symm; have f5_ := f3_.symm; clear f1_ f2_ f3_; subst f4_; subst f5_))
        refine start_ (n := 5) (S := fun w' => w'.cell? ⟨gb223, 0, none⟩ = some (.int .i64 a0_0) ∧ w'.cell? ⟨gb223, 1, none⟩ = some (.bool a0_1)) (ds := []) #[false, false, false, false, false] (by kernel_rfl) rfl rfl ⟨(blk_cell BK223.out 0).trans rfl, (blk_cell BK223.out 1).trans rfl⟩ (fun hHeld => ?_)
        generalize wr.drew = w28 at HO_5 BK223 HB hHeld ⊢
        refine pure_ (i := 1) (N := some 50) (v := ?_) (a' := ?_) #[false, true, false, false, false] rfl rfl (by kernel_rfl) (fun _ _ _ h => h) (Or.inl ⟨by rfl, ?_⟩) ?_ ?_
        rotate_left
        ·intro w'
         go_simp
         with_reducible rfl
        rotate_left
        ·simp only [Act.put, nrm]
         rfl
        refine take_ (i := 0) (N := some 49) (v := ?_) (a' := ?_) #[true, true, false, false, false] rfl rfl (by kernel_rfl) (fun _ _ _ h => h) (Or.inl ⟨by rfl, ?_⟩) hHeld ?_ ?_
        rotate_left
        ·rintro w' ⟨s0, s1⟩
         go_simp
         with_reducible rfl
        rotate_left
        ·simp only [Act.put, nrm]
         rfl
        refine one_ (i := 2) (N := some 51) #[true, true, true, false, false] rfl rfl (by kernel_rfl) (by decide) (fun K hK => ?_)
        refine goes_ Try.func23 (by kernel_rfl) rfl #[.slice Ao29 t226.length co29] (by rfl) rfl rfl (by (try simp only [List.map_toArray, List.map_cons, List.map_nil]); first | done | rfl | (simp only [List.length_drop, List.length_take]; rfl)) ?_
        with_reducible refine (signalbenchlaw19_ideal.calls k3 _ _ t226 t234 _ ?side1 ?side2 A25.out).mono ?_
        (case side1 => repeat (first | exact (Kd.R_reads' HO_5.out).2.2 | (with_reducible refine Kd.C_alloc ?_ _) | (with_reducible refine Kd.C_drewN ?_ _) | (with_reducible refine Kd.C_drew ?_)))
        (case side2 => exact (Kd.R_reads' HO_5.out).2.1)
        rintro e w30 ⟨v235, rfl, ho0, hb⟩
        refine ⟨_, rfl, ?_⟩
        have n0_ := Aside0.mk (Kd.R_below (rkw HO_5.out) hb)
        have n1_ := Aside0.mk (Kd.R_lower ho0 (below_size (hbw HB.out)))
        have n2_ := Aside0.mk (blkb BK223.out hb)
        have n3_ := Aside0.mk (below_step (hbw HB.out) hb)
        clear HO_5
        clear BK223
        clear HB
        have HO_5 := n0_
        have HO236 := n1_
        have BK223 := n2_
        have HB := n3_
        clear n0_ n1_ n2_ n3_
        (try clear hb)
        (try clear hb2)
        (try clear hk)
        (try clear hi)
        (try clear ho0)
        obtain ⟨Ao31, co31, eo31⟩ := Kd.R_slice HO236.out
        (first | subst eo31 | (injection eo31 with f1_ f2_ f3_; have f4_ := f1_.symm; have f5_ := f3_.symm; clear f1_ f2_ f3_; subst f4_; subst f5_))
        refine hK.out _ _ ⟨(blk_cell BK223.out 0).trans rfl, (blk_cell BK223.out 1).trans rfl⟩ (fun hHeld => ?_)
        clear hK K
        refine norm_ (a' := ?_) ?_ ?_
        rotate_left
        ·show Act.put _ (some 51) _ = _
         simp only [Act.put, nrm]
         rfl
        refine one_ (i := 3) (N := some 52) #[true, true, true, true, false] rfl rfl (by kernel_rfl) (by decide) (fun K hK => ?_)
        refine goes_ Try.func18 (by kernel_rfl) rfl #[.agg #[.int .i64 a0_0, .bool a0_1], .slice Ao31 t234.length co31] (by rfl) rfl rfl (by (try simp only [List.map_toArray, List.map_cons, List.map_nil]); first | done | rfl | (simp only [List.length_drop, List.length_take]; rfl)) ?_
        with_reducible refine (stuff_Decode.calls k3 a0_0 a0_1 _ _ t234 t237 _ ?side1 ?side2 A26.out).mono ?_
        (case side1 => repeat (first | exact (Kd.R_reads' HO236.out).2.2 | (with_reducible refine Kd.C_alloc ?_ _) | (with_reducible refine Kd.C_drewN ?_ _) | (with_reducible refine Kd.C_drew ?_)))
        (case side2 => exact (Kd.R_reads' HO236.out).2.1)
        rintro e w32 ⟨v238, rfl, ho0, hb⟩
        refine ⟨_, rfl, ?_⟩
        have n0_ := Aside0.mk (Kd.R_below (rkw HO_5.out) hb)
        have n1_ := Aside0.mk (Kd.R_elder' (rkw HO236.out) (Kd.R_base ho0) hb)
        have n2_ := Aside0.mk (Kd.R_lower (Kd.R_new' ho0 (Kd.R_lt (rkw HO236.out))) (below_size (hbw HB.out)))
        have n3_ := Aside0.mk (blkb BK223.out hb)
        have n4_ := Aside0.mk (below_step (hbw HB.out) hb)
        clear HO_5
        clear HO236
        clear BK223
        clear HB
        have HO_5 := n0_
        have HO236 := n1_
        have HO239 := n2_
        have BK223 := n3_
        have HB := n4_
        clear n0_ n1_ n2_ n3_ n4_
        (try clear hb)
        (try clear hb2)
        (try clear hk)
        (try clear hi)
        (try clear ho0)
        refine hK.out _ _ ⟨(blk_cell BK223.out 0).trans rfl, (blk_cell BK223.out 1).trans rfl⟩ (fun hHeld => ?_)
        clear hK K
        refine norm_ (a' := ?_) ?_ ?_
        rotate_left
        ·show Act.put _ (some 52) _ = _
         simp only [Act.put, nrm]
         rfl
        refine pure_ (i := 4) (N := some 9) (v := ?_) (a' := ?_) #[true, true, true, true, true] rfl rfl (by kernel_rfl) (fun _ _ _ h => h) (Or.inl ⟨by rfl, ?_⟩) ?_ ?_
        rotate_left
        ·intro w'
         go_simp
         with_reducible rfl
        rotate_left
        ·simp only [Act.put, nrm]
         rfl
        refine done_ (by kernel_rfl) ?_
        obtain ⟨Ao33, co33, eo33⟩ := Kd.R_slice HO239.out
        subst eo33
        go_upto_if 57 with (fail)
        go_cut [] (fun wc => ∃ (kq : Nat), Aside0 (signalbenchlaw19_StuffRoundTrips.j3 kq x7_3 t237 = some r) ∧ Aside0 (kq ≤ k3) ∧ Aside0 (Kd.R k33 33 wc w.heap.size (fun _ => True) (.slice Ao33 t237.length co33) t237) ∧ Aside0 (wc.heap[gb223]? = some (.cells #[.int .i64 a0_0, .bool a0_1] 23 (0, 0))) ∧ Aside0 (Below w.heap.size w wc))
        case first =>
         have H := HC27.out
         clear HC27
         by_cases c34 : (t237.length : Int) = (x7_3.size : Int)
         ·rw [if_pos c34] at H
          have c34b0 : ((t237.length : Int) == (x7_3.size : Int)) = true := beq_iff_eq.mpr c34
          have c34b1 : ((t237.length : Int) != (x7_3.size : Int)) = false := bne_eq_false_iff_eq.mpr c34
          have c34b2 : (t237.length == x7_3.size) = true := by first | simpa using c34 | (simp at c34 ⊢; omega)
          clear c34
          (first | rw [c34b0] | (simp only [i64_w, i32_w]; rw [c34b0]) | skip)
          have H' := Aside0.mk H
          clear H
          go_wp2
          go_meet
          case rel => exact ⟨_, H', ⟨by have := HJ3.out; have := HJ9.out; have := HK3.out; first | omega | exact Nat.le_refl _⟩, ⟨by (with_reducible repeat (first | apply Kd.R_alloc | apply Kd.R_drewN | apply Kd.R_drew)); exact Kd.R_mono HO239.out (fun _ hk => trivial)⟩, ⟨by (with_reducible repeat (first | refine blk_drewN ?_ _ | refine blk_drew ?_ | refine blk_alloc ?_ _)); exact BK223.out⟩, ⟨by repeat (first | (with_reducible first | exact HB.out | apply below_alloc | apply pw_below_drewN | apply below_drew1 | refine below_set ?_ GE223.out) | exact HB.out)⟩⟩
         ·rw [if_neg c34] at H
          have c34b0 : ((t237.length : Int) == (x7_3.size : Int)) = false := beq_eq_false_iff_ne.mpr c34
          have c34b1 : ((t237.length : Int) != (x7_3.size : Int)) = true := bne_iff_ne.mpr c34
          have c34b2 : (t237.length == x7_3.size) = false := by first | simpa using c34 | (simp at c34 ⊢; omega)
          (first | rw [c34b0] | (simp only [i64_w, i32_w]; rw [c34b0]) | skip)
          obtain rfl := Option.some.inj H
          go_wp2
          go_ret
          exact ⟨by first | rfl | (simp [errW_none, errW_some] <;> rfl) | (simp [*, errW_none, errW_some] <;> rfl), by repeat (first | (with_reducible first | exact HB.out | apply below_alloc | apply pw_below_drewN | apply below_drew1 | refine below_set ?_ GE223.out) | exact HB.out)⟩
        case rest =>
         clear HC27
         try clear c1
         try clear c2
         try clear p2
         try clear q2
         try clear hx2
         try clear c3
         try clear c5
         try clear c6
         try clear p6
         try clear c9
         try clear c13
         try clear c13b0
         try clear c13b1
         try clear c14
         try clear c14b0
         try clear c14b1
         try clear c14b2
         try clear c18
         try clear c19
         try clear c19b0
         try clear c20
         try clear c20b0
         try clear c21
         try clear c21b0
         try clear c21b1
         try clear c22
         try clear c22b0
         try clear c22b1
         try clear c22b2
         try clear c23
         try clear p23
         try clear q23
         try clear hx23
         try clear c34
         try clear c34b0
         try clear c34b1
         try clear c34b2
         try clear hcz11_0
         try clear hcz11_1
         try clear hfz11_0
         try clear hfz11_1
         try clear hx231_0
         try clear hx231_1
         try clear hx231_2
         try clear hx231_3
         try clear hx231_4
         try clear hx232_0
         try clear hx232_1
         try clear hx232_2
         try clear hx232_3
         try clear hx232_4
         try clear p2
         try clear p231
         try clear p232
         try clear q231
         try clear q232
         obtain ⟨kq, HA, HJ26, HO_9, BK223, HB⟩ := hcut
         cases kq with
         | zero => exact absurd HA.out (by simp [signalbenchlaw19_StuffRoundTrips.j3])
         | succ kj26 =>
          have H := HA.out
          clear HA
          simp only [signalbenchlaw19_StuffRoundTrips.j3] at H
          have H' := Aside0.mk H
          clear H
          go_wp2
          go_loopg [10] kj26 (fun kq v10 w' => ∃ (x10_5 : Int), v10 = .int .i64 x10_5 ∧ Aside0 (signalbenchlaw19_StuffRoundTrips.l1 kq x7_3 t237 x10_5 = some r) ∧ Aside0 (kq ≤ kj26) ∧ Aside0 (Kd.R k33 33 w' w.heap.size (fun _ => True) (.slice Ao33 t237.length co33) t237) ∧ Aside0 (w'.heap[gb223]? = some (.cells #[.int .i64 a0_0, .bool a0_1] 23 (0, 0))) ∧ Aside0 (Below w.heap.size w w'))
          case atStart => exact ⟨(0), (by first | rfl | (simp; done) | (simp [*]; done)), H', ⟨Nat.le_refl _⟩, ⟨by (with_reducible repeat (first | apply Kd.R_alloc | apply Kd.R_drewN | apply Kd.R_drew)); exact HO_9.out⟩, ⟨by (with_reducible repeat (first | refine blk_drewN ?_ _ | refine blk_drew ?_ | refine blk_alloc ?_ _)); exact BK223.out⟩, ⟨by repeat (first | (with_reducible first | exact HB.out | apply below_alloc | apply pw_below_drewN | apply below_drew1 | refine below_set ?_ GE223.out) | exact HB.out)⟩⟩
          case round =>
           clear H'
           try clear c1
           try clear c2
           try clear p2
           try clear q2
           try clear hx2
           try clear c3
           try clear c5
           try clear c6
           try clear p6
           try clear c9
           try clear c13
           try clear c13b0
           try clear c13b1
           try clear c14
           try clear c14b0
           try clear c14b1
           try clear c14b2
           try clear c18
           try clear c19
           try clear c19b0
           try clear c20
           try clear c20b0
           try clear c21
           try clear c21b0
           try clear c21b1
           try clear c22
           try clear c22b0
           try clear c22b1
           try clear c22b2
           try clear c23
           try clear p23
           try clear q23
           try clear hx23
           try clear c34
           try clear c34b0
           try clear c34b1
           try clear c34b2
           try clear hcz11_0
           try clear hcz11_1
           try clear hfz11_0
           try clear hfz11_1
           try clear hx231_0
           try clear hx231_1
           try clear hx231_2
           try clear hx231_3
           try clear hx231_4
           try clear hx232_0
           try clear hx232_1
           try clear hx232_2
           try clear hx232_3
           try clear hx232_4
           try clear p2
           try clear p23
           try clear p231
           try clear p232
           try clear p6
           try clear q2
           try clear q23
           try clear q231
           try clear q232
           obtain ⟨x10_5, rfl, HA, HK5, HO_9, BK223, HB⟩ := hrel
           cases gk with
           | zero => exact absurd HA.out (by simp [signalbenchlaw19_StuffRoundTrips.l1])
           | succ k5 =>
            have H := HA.out
            clear HA
            simp only [signalbenchlaw19_StuffRoundTrips.l1] at H
            by_cases c35 : x10_5 < (t237.length : Int)
            ·rw [if_pos c35] at H
             have c35b0 : decide (x10_5 < (t237.length : Int)) = true := decide_eq_true c35
             clear c35
             by_cases c36 : 0 ≤ x10_5
             ·rw [if_pos c36] at H
              have c36b0 : decide (0 ≤ x10_5) = true := decide_eq_true c36
              clear c36
              by_cases c37 : ((rd_T33 t237 x10_5).f6) = 0
              ·rw [if_pos c37] at H
               have c37b0 : (((rd_T33 t237 x10_5).f6) == 0) = true := beq_iff_eq.mpr c37
               have c37b1 : (((rd_T33 t237 x10_5).f6) != 0) = false := bne_eq_false_iff_eq.mpr c37
               clear c37
               by_cases c38 : x10_5 < (x7_3.size : Int)
               ·rw [if_pos c38] at H
                have c38b0 : decide (x10_5 < (x7_3.size : Int)) = true := decide_eq_true c38
                clear c38
                by_cases c40 : ((((rd_T33 t237 x10_5).f3) == 1) != ((bt x7_3 x10_5) == 49)) = true
                ·rw [if_pos c40] at H
                 have c40b0 : ((((rd_T33 t237 x10_5).f3) == 1) != ((bt x7_3 x10_5) == 49)) = true := c40
                 (try (have c40b1 : (!(((rd_T33 t237 x10_5).f3) == 1) == ((bt x7_3 x10_5) == 49)) = true := by have h_ : ((((rd_T33 t237 x10_5).f3) == 1) != ((bt x7_3 x10_5) == 49)) = true := c40; simpa only [bneN] using h_))
                 (try (have c40b2 : decide ((((rd_T33 t237 x10_5).f3) == 1) = ((bt x7_3 x10_5) == 49)) = false := by simpa using c40))
                 (try (have c40b3 : ((((rd_T33 t237 x10_5).f3) == 1) == ((bt x7_3 x10_5) == 49)) = false := by simpa using c40))
                 (try (have c40b4 : ¬ ((((rd_T33 t237 x10_5).f3) == 1) = ((bt x7_3 x10_5) == 49)) := by simpa using c40))
                 clear c40
                 obtain rfl := Option.some.inj H
                 try go_wp2
                 have n0_ := Aside0.mk (Kd.R_drew HO_9.out)
                 have n1_ := Aside0.mk (blk_drew BK223.out)
                 have n2_ := Aside0.mk (below_drew1 HB.out)
                 clear HO_9
                 clear BK223
                 clear HB
                 have HO_9 := n0_
                 have BK223 := n1_
                 have HB := n2_
                 clear n0_ n1_ n2_
                 have p240 : 0 ≤ (x10_5 : Int) := of_decide_eq_true (by first | (with_reducible assumption) | assumption)
                 have q240 : x10_5 < (t237.length : Int) := of_decide_eq_true (by first | (with_reducible assumption) | assumption)
                 obtain ⟨ad240, e240, hx240_0, hx240_1, hx240_2, hx240_3, hx240_4, hx240_5, hx240_6⟩ := at_T33 (Kd.R_reads' HO_9.out).2.2 x10_5 p240 q240
                 cases e240
                 replace p240 := eq_true p240
                 replace q240 := eq_true q240
                 have p241 : 0 ≤ (x10_5 : Int) := of_decide_eq_true (by first | (with_reducible assumption) | assumption)
                 have q241 : x10_5 < (t237.length : Int) := of_decide_eq_true (by first | (with_reducible assumption) | assumption)
                 obtain ⟨ad241, e241, hx241_0, hx241_1, hx241_2, hx241_3, hx241_4, hx241_5, hx241_6⟩ := at_T33 (Kd.R_reads' HO_9.out).2.2 x10_5 p241 q241
                 obtain rfl : ad240 = ad241 := (by injection e241)
                 replace p241 := eq_true p241
                 replace q241 := eq_true q241
                 have p39 : 0 ≤ (x10_5 : Int) := of_decide_eq_true (by first | (with_reducible assumption) | assumption)
                 have q39 : x10_5 < (x7_3.size : Int) := of_decide_eq_true (by first | (with_reducible assumption) | assumption)
                 have hx39 := bt_at x7_3 x10_5
                 replace p39 := eq_true p39
                 replace q39 := eq_true q39
                 refine start_ (n := 19) (S := fun w' => w'.cell? (ad240.add ((x10_5).toNat * 7)) = some (.int .i64 ((rd_T33 t237 x10_5).f0)) ∧ w'.cell? ⟨(ad240.add ((x10_5).toNat * 7)).block, (ad240.add ((x10_5).toNat * 7)).off + 1, none⟩ = some (.int .i64 ((rd_T33 t237 x10_5).f1)) ∧ w'.cell? ⟨(ad240.add ((x10_5).toNat * 7)).block, (ad240.add ((x10_5).toNat * 7)).off + 2, none⟩ = some (.int .i64 ((rd_T33 t237 x10_5).f2)) ∧ w'.cell? ⟨(ad240.add ((x10_5).toNat * 7)).block, (ad240.add ((x10_5).toNat * 7)).off + 3, none⟩ = some (.int .i64 ((rd_T33 t237 x10_5).f3)) ∧ w'.cell? ⟨(ad240.add ((x10_5).toNat * 7)).block, (ad240.add ((x10_5).toNat * 7)).off + 4, none⟩ = some (.int .i64 ((rd_T33 t237 x10_5).f4)) ∧ w'.cell? ⟨(ad240.add ((x10_5).toNat * 7)).block, (ad240.add ((x10_5).toNat * 7)).off + 5, none⟩ = some (.string ((rd_T33 t237 x10_5).f5)) ∧ w'.cell? ⟨(ad240.add ((x10_5).toNat * 7)).block, (ad240.add ((x10_5).toNat * 7)).off + 6, none⟩ = some (.int .i64 ((rd_T33 t237 x10_5).f6)) ∧ w'.cell? (ad240.add ((x10_5).toNat * 7)) = some (.int .i64 ((rd_T33 t237 x10_5).f0)) ∧ w'.cell? ⟨(ad240.add ((x10_5).toNat * 7)).block, (ad240.add ((x10_5).toNat * 7)).off + 1, none⟩ = some (.int .i64 ((rd_T33 t237 x10_5).f1)) ∧ w'.cell? ⟨(ad240.add ((x10_5).toNat * 7)).block, (ad240.add ((x10_5).toNat * 7)).off + 2, none⟩ = some (.int .i64 ((rd_T33 t237 x10_5).f2)) ∧ w'.cell? ⟨(ad240.add ((x10_5).toNat * 7)).block, (ad240.add ((x10_5).toNat * 7)).off + 3, none⟩ = some (.int .i64 ((rd_T33 t237 x10_5).f3)) ∧ w'.cell? ⟨(ad240.add ((x10_5).toNat * 7)).block, (ad240.add ((x10_5).toNat * 7)).off + 4, none⟩ = some (.int .i64 ((rd_T33 t237 x10_5).f4)) ∧ w'.cell? ⟨(ad240.add ((x10_5).toNat * 7)).block, (ad240.add ((x10_5).toNat * 7)).off + 5, none⟩ = some (.string ((rd_T33 t237 x10_5).f5)) ∧ w'.cell? ⟨(ad240.add ((x10_5).toNat * 7)).block, (ad240.add ((x10_5).toNat * 7)).off + 6, none⟩ = some (.int .i64 ((rd_T33 t237 x10_5).f6))) (ds := []) #[false, false, false, false, false, false, false, false, false, false, false, false, false, false, false, false, false, false, false] (by kernel_rfl) rfl rfl ⟨hx240_0, hx240_1, hx240_2, hx240_3, hx240_4, hx240_5, hx240_6, hx241_0, hx241_1, hx241_2, hx241_3, hx241_4, hx241_5, hx241_6⟩ (fun hHeld => ?_); refine with_tabW signalbenchlaw19_StuffRoundTrips.tab19 signalbenchlaw19_StuffRoundTrips.bits19 (fun HT_ HW_ => ?_)
                 generalize wr.drew = w41 at HO_9 BK223 HB hx240_0 hx240_1 hx240_2 hx240_3 hx240_4 hx240_5 hx240_6 hx241_0 hx241_1 hx241_2 hx241_3 hx241_4 hx241_5 hx241_6 hHeld ⊢
                 refine pstep 0 (some 64) #[true, false, false, false, false, false, false, false, false, false, false, false, false, false, false, false, false, false, false] HT_.out ?_
                 refine pstep 1 (some 65) #[true, true, false, false, false, false, false, false, false, false, false, false, false, false, false, false, false, false, false] HT_.out ?_
                 refine pstep 2 (some 66) #[true, true, true, false, false, false, false, false, false, false, false, false, false, false, false, false, false, false, false] HT_.out ?_
                 refine pstep 3 (some 67) #[true, true, true, true, false, false, false, false, false, false, false, false, false, false, false, false, false, false, false] HT_.out ?_
                 refine take_ (i := 4) (N := some 68) (v := ?_) (a' := ?_) #[true, true, true, true, true, false, false, false, false, false, false, false, false, false, false, false, false, false, false] rfl rfl (take_ofW HT_.out HW_.out (by kernel_rfl)) (fun _ _ _ h => h) (Or.inl ⟨by rfl, ?_⟩) hHeld ?_ ?_
                 rotate_left
                 ·rintro w' ⟨s0, s1, s2, s3, s4, s5, s6, s7, s8, s9, s10, s11, s12, s13⟩
                  go_simp
                  with_reducible rfl
                 rotate_left
                 ·simp only [Act.put, nrm]
                  rfl
                 refine pstep 5 (some 69) #[true, true, true, true, true, true, false, false, false, false, false, false, false, false, false, false, false, false, false] HT_.out ?_
                 refine pstep 6 (some 70) #[true, true, true, true, true, true, true, false, false, false, false, false, false, false, false, false, false, false, false] HT_.out ?_
                 refine pstep 7 (some 71) #[true, true, true, true, true, true, true, true, false, false, false, false, false, false, false, false, false, false, false] HT_.out ?_
                 refine pstep 8 (some 72) #[true, true, true, true, true, true, true, true, true, false, false, false, false, false, false, false, false, false, false] HT_.out ?_
                 refine pstep 9 (some 73) #[true, true, true, true, true, true, true, true, true, true, false, false, false, false, false, false, false, false, false] HT_.out ?_
                 refine pstep 10 (some 74) #[true, true, true, true, true, true, true, true, true, true, true, false, false, false, false, false, false, false, false] HT_.out ?_
                 refine pstep 13 (some 77) #[true, true, true, true, true, true, true, true, true, true, true, false, false, true, false, false, false, false, false] HT_.out ?_
                 refine pstep 14 (some 78) #[true, true, true, true, true, true, true, true, true, true, true, false, false, true, true, false, false, false, false] HT_.out ?_
                 refine take_ (i := 11) (N := some 75) (v := ?_) (a' := ?_) #[true, true, true, true, true, true, true, true, true, true, true, true, false, true, true, false, false, false, false] rfl rfl (take_ofW HT_.out HW_.out (by kernel_rfl)) (fun _ _ _ h => h) (Or.inl ⟨by rfl, ?_⟩) hHeld ?_ ?_
                 rotate_left
                 ·rintro w' ⟨s0, s1, s2, s3, s4, s5, s6, s7, s8, s9, s10, s11, s12, s13⟩
                  go_simp
                  with_reducible rfl
                 rotate_left
                 ·simp only [Act.put, nrm]
                  rfl
                 refine pstep 12 (some 76) #[true, true, true, true, true, true, true, true, true, true, true, true, true, true, true, false, false, false, false] HT_.out ?_
                 refine take_ (i := 15) (N := some 79) (v := ?_) (a' := ?_) #[true, true, true, true, true, true, true, true, true, true, true, true, true, true, true, true, false, false, false] rfl rfl (take_ofW HT_.out HW_.out (by kernel_rfl)) (fun _ _ _ h => h) (Or.inl ⟨by rfl, ?_⟩) hHeld ?_ ?_
                 rotate_left
                 ·rintro w' ⟨s0, s1, s2, s3, s4, s5, s6, s7, s8, s9, s10, s11, s12, s13⟩
                  go_simp
                  with_reducible rfl
                 rotate_left
                 ·simp only [Act.put, nrm]
                  rfl
                 refine pstep 16 (some 80) #[true, true, true, true, true, true, true, true, true, true, true, true, true, true, true, true, true, false, false] HT_.out ?_
                 refine pstep 17 (some 81) #[true, true, true, true, true, true, true, true, true, true, true, true, true, true, true, true, true, true, false] HT_.out ?_
                 refine pstep 18 (some 82) #[true, true, true, true, true, true, true, true, true, true, true, true, true, true, true, true, true, true, true] HT_.out ?_
                 refine done_ (done_of HT_.out (by kernel_rfl)) ?_
                 try go_wp2
                 go_ret
                 exact ⟨by first | rfl | (simp [errW_none, errW_some] <;> rfl) | (simp [*, errW_none, errW_some] <;> rfl), by repeat (first | (with_reducible first | exact HB.out | apply below_alloc | apply pw_below_drewN | apply below_drew1 | refine below_set ?_ GE223.out) | exact HB.out)⟩
                ·rw [if_neg c40] at H
                 have c40b0 : ((((rd_T33 t237 x10_5).f3) == 1) != ((bt x7_3 x10_5) == 49)) = false := by simpa using c40
                 (try (have c40b1 : (!(((rd_T33 t237 x10_5).f3) == 1) == ((bt x7_3 x10_5) == 49)) = false := by have h_ : ((((rd_T33 t237 x10_5).f3) == 1) != ((bt x7_3 x10_5) == 49)) = false := (by simpa using c40); simpa only [bneN] using h_))
                 (try (have c40b2 : decide ((((rd_T33 t237 x10_5).f3) == 1) = ((bt x7_3 x10_5) == 49)) = true := by simpa using c40))
                 (try (have c40b3 : ((((rd_T33 t237 x10_5).f3) == 1) == ((bt x7_3 x10_5) == 49)) = true := by simpa using c40))
                 clear c40
                 have H' := Aside0.mk H
                 clear H
                 try go_wp2
                 have n0_ := Aside0.mk (Kd.R_drew HO_9.out)
                 have n1_ := Aside0.mk (blk_drew BK223.out)
                 have n2_ := Aside0.mk (below_drew1 HB.out)
                 clear HO_9
                 clear BK223
                 clear HB
                 have HO_9 := n0_
                 have BK223 := n1_
                 have HB := n2_
                 clear n0_ n1_ n2_
                 have p240 : 0 ≤ (x10_5 : Int) := of_decide_eq_true (by first | (with_reducible assumption) | assumption)
                 have q240 : x10_5 < (t237.length : Int) := of_decide_eq_true (by first | (with_reducible assumption) | assumption)
                 obtain ⟨ad240, e240, hx240_0, hx240_1, hx240_2, hx240_3, hx240_4, hx240_5, hx240_6⟩ := at_T33 (Kd.R_reads' HO_9.out).2.2 x10_5 p240 q240
                 cases e240
                 replace p240 := eq_true p240
                 replace q240 := eq_true q240
                 have p241 : 0 ≤ (x10_5 : Int) := of_decide_eq_true (by first | (with_reducible assumption) | assumption)
                 have q241 : x10_5 < (t237.length : Int) := of_decide_eq_true (by first | (with_reducible assumption) | assumption)
                 obtain ⟨ad241, e241, hx241_0, hx241_1, hx241_2, hx241_3, hx241_4, hx241_5, hx241_6⟩ := at_T33 (Kd.R_reads' HO_9.out).2.2 x10_5 p241 q241
                 obtain rfl : ad240 = ad241 := (by injection e241)
                 replace p241 := eq_true p241
                 replace q241 := eq_true q241
                 have p39 : 0 ≤ (x10_5 : Int) := of_decide_eq_true (by first | (with_reducible assumption) | assumption)
                 have q39 : x10_5 < (x7_3.size : Int) := of_decide_eq_true (by first | (with_reducible assumption) | assumption)
                 have hx39 := bt_at x7_3 x10_5
                 replace p39 := eq_true p39
                 replace q39 := eq_true q39
                 refine start_ (n := 19) (S := fun w' => w'.cell? (ad240.add ((x10_5).toNat * 7)) = some (.int .i64 ((rd_T33 t237 x10_5).f0)) ∧ w'.cell? ⟨(ad240.add ((x10_5).toNat * 7)).block, (ad240.add ((x10_5).toNat * 7)).off + 1, none⟩ = some (.int .i64 ((rd_T33 t237 x10_5).f1)) ∧ w'.cell? ⟨(ad240.add ((x10_5).toNat * 7)).block, (ad240.add ((x10_5).toNat * 7)).off + 2, none⟩ = some (.int .i64 ((rd_T33 t237 x10_5).f2)) ∧ w'.cell? ⟨(ad240.add ((x10_5).toNat * 7)).block, (ad240.add ((x10_5).toNat * 7)).off + 3, none⟩ = some (.int .i64 ((rd_T33 t237 x10_5).f3)) ∧ w'.cell? ⟨(ad240.add ((x10_5).toNat * 7)).block, (ad240.add ((x10_5).toNat * 7)).off + 4, none⟩ = some (.int .i64 ((rd_T33 t237 x10_5).f4)) ∧ w'.cell? ⟨(ad240.add ((x10_5).toNat * 7)).block, (ad240.add ((x10_5).toNat * 7)).off + 5, none⟩ = some (.string ((rd_T33 t237 x10_5).f5)) ∧ w'.cell? ⟨(ad240.add ((x10_5).toNat * 7)).block, (ad240.add ((x10_5).toNat * 7)).off + 6, none⟩ = some (.int .i64 ((rd_T33 t237 x10_5).f6)) ∧ w'.cell? (ad240.add ((x10_5).toNat * 7)) = some (.int .i64 ((rd_T33 t237 x10_5).f0)) ∧ w'.cell? ⟨(ad240.add ((x10_5).toNat * 7)).block, (ad240.add ((x10_5).toNat * 7)).off + 1, none⟩ = some (.int .i64 ((rd_T33 t237 x10_5).f1)) ∧ w'.cell? ⟨(ad240.add ((x10_5).toNat * 7)).block, (ad240.add ((x10_5).toNat * 7)).off + 2, none⟩ = some (.int .i64 ((rd_T33 t237 x10_5).f2)) ∧ w'.cell? ⟨(ad240.add ((x10_5).toNat * 7)).block, (ad240.add ((x10_5).toNat * 7)).off + 3, none⟩ = some (.int .i64 ((rd_T33 t237 x10_5).f3)) ∧ w'.cell? ⟨(ad240.add ((x10_5).toNat * 7)).block, (ad240.add ((x10_5).toNat * 7)).off + 4, none⟩ = some (.int .i64 ((rd_T33 t237 x10_5).f4)) ∧ w'.cell? ⟨(ad240.add ((x10_5).toNat * 7)).block, (ad240.add ((x10_5).toNat * 7)).off + 5, none⟩ = some (.string ((rd_T33 t237 x10_5).f5)) ∧ w'.cell? ⟨(ad240.add ((x10_5).toNat * 7)).block, (ad240.add ((x10_5).toNat * 7)).off + 6, none⟩ = some (.int .i64 ((rd_T33 t237 x10_5).f6))) (ds := []) #[false, false, false, false, false, false, false, false, false, false, false, false, false, false, false, false, false, false, false] (by kernel_rfl) rfl rfl ⟨hx240_0, hx240_1, hx240_2, hx240_3, hx240_4, hx240_5, hx240_6, hx241_0, hx241_1, hx241_2, hx241_3, hx241_4, hx241_5, hx241_6⟩ (fun hHeld => ?_); refine with_tabW signalbenchlaw19_StuffRoundTrips.tab19 signalbenchlaw19_StuffRoundTrips.bits19 (fun HT_ HW_ => ?_)
                 generalize wr.drew = w42 at HO_9 BK223 HB hx240_0 hx240_1 hx240_2 hx240_3 hx240_4 hx240_5 hx240_6 hx241_0 hx241_1 hx241_2 hx241_3 hx241_4 hx241_5 hx241_6 hHeld ⊢
                 refine pstep 0 (some 64) #[true, false, false, false, false, false, false, false, false, false, false, false, false, false, false, false, false, false, false] HT_.out ?_
                 refine pstep 1 (some 65) #[true, true, false, false, false, false, false, false, false, false, false, false, false, false, false, false, false, false, false] HT_.out ?_
                 refine pstep 2 (some 66) #[true, true, true, false, false, false, false, false, false, false, false, false, false, false, false, false, false, false, false] HT_.out ?_
                 refine pstep 3 (some 67) #[true, true, true, true, false, false, false, false, false, false, false, false, false, false, false, false, false, false, false] HT_.out ?_
                 refine take_ (i := 4) (N := some 68) (v := ?_) (a' := ?_) #[true, true, true, true, true, false, false, false, false, false, false, false, false, false, false, false, false, false, false] rfl rfl (take_ofW HT_.out HW_.out (by kernel_rfl)) (fun _ _ _ h => h) (Or.inl ⟨by rfl, ?_⟩) hHeld ?_ ?_
                 rotate_left
                 ·rintro w' ⟨s0, s1, s2, s3, s4, s5, s6, s7, s8, s9, s10, s11, s12, s13⟩
                  go_simp
                  with_reducible rfl
                 rotate_left
                 ·simp only [Act.put, nrm]
                  rfl
                 refine pstep 5 (some 69) #[true, true, true, true, true, true, false, false, false, false, false, false, false, false, false, false, false, false, false] HT_.out ?_
                 refine pstep 6 (some 70) #[true, true, true, true, true, true, true, false, false, false, false, false, false, false, false, false, false, false, false] HT_.out ?_
                 refine pstep 7 (some 71) #[true, true, true, true, true, true, true, true, false, false, false, false, false, false, false, false, false, false, false] HT_.out ?_
                 refine pstep 8 (some 72) #[true, true, true, true, true, true, true, true, true, false, false, false, false, false, false, false, false, false, false] HT_.out ?_
                 refine pstep 9 (some 73) #[true, true, true, true, true, true, true, true, true, true, false, false, false, false, false, false, false, false, false] HT_.out ?_
                 refine pstep 10 (some 74) #[true, true, true, true, true, true, true, true, true, true, true, false, false, false, false, false, false, false, false] HT_.out ?_
                 refine pstep 13 (some 77) #[true, true, true, true, true, true, true, true, true, true, true, false, false, true, false, false, false, false, false] HT_.out ?_
                 refine pstep 14 (some 78) #[true, true, true, true, true, true, true, true, true, true, true, false, false, true, true, false, false, false, false] HT_.out ?_
                 refine take_ (i := 11) (N := some 75) (v := ?_) (a' := ?_) #[true, true, true, true, true, true, true, true, true, true, true, true, false, true, true, false, false, false, false] rfl rfl (take_ofW HT_.out HW_.out (by kernel_rfl)) (fun _ _ _ h => h) (Or.inl ⟨by rfl, ?_⟩) hHeld ?_ ?_
                 rotate_left
                 ·rintro w' ⟨s0, s1, s2, s3, s4, s5, s6, s7, s8, s9, s10, s11, s12, s13⟩
                  go_simp
                  with_reducible rfl
                 rotate_left
                 ·simp only [Act.put, nrm]
                  rfl
                 refine pstep 12 (some 76) #[true, true, true, true, true, true, true, true, true, true, true, true, true, true, true, false, false, false, false] HT_.out ?_
                 refine take_ (i := 15) (N := some 79) (v := ?_) (a' := ?_) #[true, true, true, true, true, true, true, true, true, true, true, true, true, true, true, true, false, false, false] rfl rfl (take_ofW HT_.out HW_.out (by kernel_rfl)) (fun _ _ _ h => h) (Or.inl ⟨by rfl, ?_⟩) hHeld ?_ ?_
                 rotate_left
                 ·rintro w' ⟨s0, s1, s2, s3, s4, s5, s6, s7, s8, s9, s10, s11, s12, s13⟩
                  go_simp
                  with_reducible rfl
                 rotate_left
                 ·simp only [Act.put, nrm]
                  rfl
                 refine pstep 16 (some 80) #[true, true, true, true, true, true, true, true, true, true, true, true, true, true, true, true, true, false, false] HT_.out ?_
                 refine pstep 17 (some 81) #[true, true, true, true, true, true, true, true, true, true, true, true, true, true, true, true, true, true, false] HT_.out ?_
                 refine pstep 18 (some 82) #[true, true, true, true, true, true, true, true, true, true, true, true, true, true, true, true, true, true, true] HT_.out ?_
                 refine done_ (done_of HT_.out (by kernel_rfl)) ?_
                 try go_wp2
                 go_roundg k5
                 case measure => have := HJ3.out; have := HJ9.out; have := HK3.out; have := HJ26.out; have := HK5.out; omega
                 case rel => exact ⟨(wrap64 (x10_5 + 1)), (by first | rfl | (simp; done) | (simp [*]; done)), H', ⟨by have := HJ3.out; have := HJ9.out; have := HK3.out; have := HJ26.out; have := HK5.out; omega⟩, ⟨by (with_reducible repeat (first | apply Kd.R_alloc | apply Kd.R_drewN | apply Kd.R_drew)); exact HO_9.out⟩, ⟨by (with_reducible repeat (first | refine blk_drewN ?_ _ | refine blk_drew ?_ | refine blk_alloc ?_ _)); exact BK223.out⟩, ⟨by repeat (first | (with_reducible first | exact HB.out | apply below_alloc | apply pw_below_drewN | apply below_drew1 | refine below_set ?_ GE223.out) | exact HB.out)⟩⟩
               ·rw [if_neg c38] at H
                exact absurd H (by simp)
              ·rw [if_neg c37] at H
               have c37b0 : (((rd_T33 t237 x10_5).f6) == 0) = false := beq_eq_false_iff_ne.mpr c37
               have c37b1 : (((rd_T33 t237 x10_5).f6) != 0) = true := bne_iff_ne.mpr c37
               obtain rfl := Option.some.inj H
               try go_wp2
               have n0_ := Aside0.mk (Kd.R_drew HO_9.out)
               have n1_ := Aside0.mk (blk_drew BK223.out)
               have n2_ := Aside0.mk (below_drew1 HB.out)
               clear HO_9
               clear BK223
               clear HB
               have HO_9 := n0_
               have BK223 := n1_
               have HB := n2_
               clear n0_ n1_ n2_
               have p240 : 0 ≤ (x10_5 : Int) := of_decide_eq_true (by first | (with_reducible assumption) | assumption)
               have q240 : x10_5 < (t237.length : Int) := of_decide_eq_true (by first | (with_reducible assumption) | assumption)
               obtain ⟨ad240, e240, hx240_0, hx240_1, hx240_2, hx240_3, hx240_4, hx240_5, hx240_6⟩ := at_T33 (Kd.R_reads' HO_9.out).2.2 x10_5 p240 q240
               cases e240
               replace p240 := eq_true p240
               replace q240 := eq_true q240
               refine start_ (n := 19) (S := fun w' => w'.cell? (ad240.add ((x10_5).toNat * 7)) = some (.int .i64 ((rd_T33 t237 x10_5).f0)) ∧ w'.cell? ⟨(ad240.add ((x10_5).toNat * 7)).block, (ad240.add ((x10_5).toNat * 7)).off + 1, none⟩ = some (.int .i64 ((rd_T33 t237 x10_5).f1)) ∧ w'.cell? ⟨(ad240.add ((x10_5).toNat * 7)).block, (ad240.add ((x10_5).toNat * 7)).off + 2, none⟩ = some (.int .i64 ((rd_T33 t237 x10_5).f2)) ∧ w'.cell? ⟨(ad240.add ((x10_5).toNat * 7)).block, (ad240.add ((x10_5).toNat * 7)).off + 3, none⟩ = some (.int .i64 ((rd_T33 t237 x10_5).f3)) ∧ w'.cell? ⟨(ad240.add ((x10_5).toNat * 7)).block, (ad240.add ((x10_5).toNat * 7)).off + 4, none⟩ = some (.int .i64 ((rd_T33 t237 x10_5).f4)) ∧ w'.cell? ⟨(ad240.add ((x10_5).toNat * 7)).block, (ad240.add ((x10_5).toNat * 7)).off + 5, none⟩ = some (.string ((rd_T33 t237 x10_5).f5)) ∧ w'.cell? ⟨(ad240.add ((x10_5).toNat * 7)).block, (ad240.add ((x10_5).toNat * 7)).off + 6, none⟩ = some (.int .i64 ((rd_T33 t237 x10_5).f6))) (ds := []) #[false, false, false, false, false, false, false, false, false, false, false, false, false, false, false, false, false, false, false] (by kernel_rfl) rfl rfl ⟨hx240_0, hx240_1, hx240_2, hx240_3, hx240_4, hx240_5, hx240_6⟩ (fun hHeld => ?_); refine with_tabW signalbenchlaw19_StuffRoundTrips.tab19 signalbenchlaw19_StuffRoundTrips.bits19 (fun HT_ HW_ => ?_)
               generalize wr.drew = w43 at HO_9 BK223 HB hx240_0 hx240_1 hx240_2 hx240_3 hx240_4 hx240_5 hx240_6 hHeld ⊢
               refine pstep 0 (some 64) #[true, false, false, false, false, false, false, false, false, false, false, false, false, false, false, false, false, false, false] HT_.out ?_
               refine pstep 1 (some 65) #[true, true, false, false, false, false, false, false, false, false, false, false, false, false, false, false, false, false, false] HT_.out ?_
               refine pstep 2 (some 66) #[true, true, true, false, false, false, false, false, false, false, false, false, false, false, false, false, false, false, false] HT_.out ?_
               refine pstep 3 (some 67) #[true, true, true, true, false, false, false, false, false, false, false, false, false, false, false, false, false, false, false] HT_.out ?_
               refine take_ (i := 4) (N := some 68) (v := ?_) (a' := ?_) #[true, true, true, true, true, false, false, false, false, false, false, false, false, false, false, false, false, false, false] rfl rfl (take_ofW HT_.out HW_.out (by kernel_rfl)) (fun _ _ _ h => h) (Or.inl ⟨by rfl, ?_⟩) hHeld ?_ ?_
               rotate_left
               ·rintro w' ⟨s0, s1, s2, s3, s4, s5, s6⟩
                go_simp
                with_reducible rfl
               rotate_left
               ·simp only [Act.put, nrm]
                rfl
               refine pstep 5 (some 69) #[true, true, true, true, true, true, false, false, false, false, false, false, false, false, false, false, false, false, false] HT_.out ?_
               refine pstep 6 (some 70) #[true, true, true, true, true, true, true, false, false, false, false, false, false, false, false, false, false, false, false] HT_.out ?_
               refine pure_ (i := 7) (N := some 71) (v := undef) (a' := ?_) #[true, true, true, true, true, true, true, true, false, false, false, false, false, false, false, false, false, false, false] rfl rfl (any_of HT_.out (by kernel_rfl)) (fun _ _ _ h => h) (Or.inr ⟨by rfl, rfl⟩) ?_ ?_
               rotate_left
               ·simp only [Act.put, nrm]
                rfl
               refine pure_ (i := 8) (N := some 72) (v := undef) (a' := ?_) #[true, true, true, true, true, true, true, true, true, false, false, false, false, false, false, false, false, false, false] rfl rfl (any_of HT_.out (by kernel_rfl)) (fun _ _ _ h => h) (Or.inr ⟨by rfl, rfl⟩) ?_ ?_
               rotate_left
               ·simp only [Act.put, nrm]
                rfl
               refine pure_ (i := 9) (N := some 73) (v := undef) (a' := ?_) #[true, true, true, true, true, true, true, true, true, true, false, false, false, false, false, false, false, false, false] rfl rfl (any_of HT_.out (by kernel_rfl)) (fun _ _ _ h => h) (Or.inr ⟨by rfl, rfl⟩) ?_ ?_
               rotate_left
               ·simp only [Act.put, nrm]
                rfl
               refine pure_ (i := 10) (N := some 74) (v := undef) (a' := ?_) #[true, true, true, true, true, true, true, true, true, true, true, false, false, false, false, false, false, false, false] rfl rfl (any_of HT_.out (by kernel_rfl)) (fun _ _ _ h => h) (Or.inr ⟨by rfl, rfl⟩) ?_ ?_
               rotate_left
               ·simp only [Act.put, nrm]
                rfl
               refine pure_ (i := 11) (N := some 75) (v := undef) (a' := ?_) #[true, true, true, true, true, true, true, true, true, true, true, true, false, false, false, false, false, false, false] rfl rfl (any_of HT_.out (by kernel_rfl)) (fun _ _ _ h => h) (Or.inr ⟨by rfl, rfl⟩) ?_ ?_
               rotate_left
               ·simp only [Act.put, nrm]
                rfl
               refine pure_ (i := 12) (N := some 76) (v := undef) (a' := ?_) #[true, true, true, true, true, true, true, true, true, true, true, true, true, false, false, false, false, false, false] rfl rfl (any_of HT_.out (by kernel_rfl)) (fun _ _ _ h => h) (Or.inr ⟨by rfl, rfl⟩) ?_ ?_
               rotate_left
               ·simp only [Act.put, nrm]
                rfl
               refine pure_ (i := 13) (N := some 77) (v := undef) (a' := ?_) #[true, true, true, true, true, true, true, true, true, true, true, true, true, true, false, false, false, false, false] rfl rfl (any_of HT_.out (by kernel_rfl)) (fun _ _ _ h => h) (Or.inr ⟨by rfl, rfl⟩) ?_ ?_
               rotate_left
               ·simp only [Act.put, nrm]
                rfl
               refine pure_ (i := 14) (N := some 78) (v := undef) (a' := ?_) #[true, true, true, true, true, true, true, true, true, true, true, true, true, true, true, false, false, false, false] rfl rfl (any_of HT_.out (by kernel_rfl)) (fun _ _ _ h => h) (Or.inr ⟨by rfl, rfl⟩) ?_ ?_
               rotate_left
               ·simp only [Act.put, nrm]
                rfl
               refine pure_ (i := 15) (N := some 79) (v := undef) (a' := ?_) #[true, true, true, true, true, true, true, true, true, true, true, true, true, true, true, true, false, false, false] rfl rfl (any_of HT_.out (by kernel_rfl)) (fun _ _ _ h => h) (Or.inr ⟨by rfl, rfl⟩) ?_ ?_
               rotate_left
               ·simp only [Act.put, nrm]
                rfl
               refine pure_ (i := 16) (N := some 80) (v := undef) (a' := ?_) #[true, true, true, true, true, true, true, true, true, true, true, true, true, true, true, true, true, false, false] rfl rfl (any_of HT_.out (by kernel_rfl)) (fun _ _ _ h => h) (Or.inr ⟨by rfl, rfl⟩) ?_ ?_
               rotate_left
               ·simp only [Act.put, nrm]
                rfl
               refine pure_ (i := 17) (N := some 81) (v := undef) (a' := ?_) #[true, true, true, true, true, true, true, true, true, true, true, true, true, true, true, true, true, true, false] rfl rfl (any_of HT_.out (by kernel_rfl)) (fun _ _ _ h => h) (Or.inr ⟨by rfl, rfl⟩) ?_ ?_
               rotate_left
               ·simp only [Act.put, nrm]
                rfl
               refine pstep 18 (some 82) #[true, true, true, true, true, true, true, true, true, true, true, true, true, true, true, true, true, true, true] HT_.out ?_
               refine done_ (done_of HT_.out (by kernel_rfl)) ?_
               try go_wp2
               go_ret
               exact ⟨by first | rfl | (simp [errW_none, errW_some] <;> rfl) | (simp [*, errW_none, errW_some] <;> rfl), by repeat (first | (with_reducible first | exact HB.out | apply below_alloc | apply pw_below_drewN | apply below_drew1 | refine below_set ?_ GE223.out) | exact HB.out)⟩
             ·rw [if_neg c36] at H
              exact absurd H (by simp)
            ·rw [if_neg c35] at H
             have c35b0 : decide (x10_5 < (t237.length : Int)) = false := decide_eq_false c35
             clear c35
             replace H := Option.bind_eq_some_iff.mp H
             obtain ⟨t242, A440, H⟩ := H
             replace H : (some t242) = some r := H
             have A44 := Aside0.mk A440
             clear A440
             obtain rfl := Option.some.inj H
             go_wp2_with (first | ((with_reducible refine gate_callee (f := 9) rfl ?_); refine goesL_ (some 83) rfl rfl Try.func9 (by kernel_rfl) rfl #[] rfl (by (try simp only [List.map_toArray, List.map_cons, List.map_nil]); first | done | rfl | (simp only [List.length_drop, List.length_take]; rfl)) ?_; (with_reducible refine (signalbenchlaw19_awake.calls k5  t242 _ A44.out).mono ?_); rintro e w45 ⟨rfl, hb⟩; refine ⟨_, rfl, ?_⟩; have n0_ := Aside0.mk (Kd.R_below (rkw HO_9.out) hb); have n1_ := Aside0.mk (blkb BK223.out hb); have n2_ := Aside0.mk (below_step (hbw HB.out) hb); clear HO_9; clear BK223; clear HB; have HO_9 := n0_; have BK223 := n1_; have HB := n2_; clear n0_ n1_ n2_; (try clear hb); (try clear hb2); (try clear hk); (try clear hi)))
             go_ret
             exact ⟨by first | rfl | (simp [errW_none, errW_some] <;> rfl) | (simp [*, errW_none, errW_some] <;> rfl), by repeat (first | (with_reducible first | exact HB.out | apply below_alloc | apply pw_below_drewN | apply below_drew1 | refine below_set ?_ GE223.out) | exact HB.out)⟩

/-- THE ONE PURE STATEMENT of signalbenchlaw19_StuffRoundTrips: yours. -/
def signalbenchlaw19_StuffRoundTrips.Pure : Prop := ∀ (a0_0 : Int) (a0_1 : Bool) (l1 : List (S45)), (Lit.int .i64 a0_0).wf = true → l1.length ≤ maxLen → l1.length * 48 ≤ 140737488351232 → (∀ x ∈ l1, (Lit.int .i64 x.f0).wf = true ∧ (Lit.int .i64 x.f1).wf = true ∧ (Lit.int .i64 x.f2).wf = true ∧ x.f3.size ≤ 140737488351232 ∧ (Lit.int .i64 x.f4).wf = true) → ∃ k, signalbenchlaw19_StuffRoundTrips.f k a0_0 a0_1 l1 = some true
theorem signalbenchlaw19_StuffRoundTrips.walk (P : signalbenchlaw19_StuffRoundTrips.Pure) (a0_0 : Int) (a0_1 : Bool) (A1 : Option Addr) (c1 : Nat) (l1 : List (S45)) (w : World) (hr1 : Kd.C k45 w A1 l1.length l1) (hc1 : l1.length ≤ c1) (w0_ : (Lit.int .i64 a0_0).wf = true) (w1_ : l1.length ≤ maxLen) (w2_ : l1.length * 48 ≤ 140737488351232) (w3_ : (∀ x ∈ l1, (Lit.int .i64 x.f0).wf = true ∧ (Lit.int .i64 x.f1).wf = true ∧ (Lit.int .i64 x.f2).wf = true ∧ x.f3.size ≤ 140737488351232 ∧ (Lit.int .i64 x.f4).wf = true)) :
  Calls Try.prog 5 #[.agg #[.int .i64 a0_0, .bool a0_1], .slice A1 l1.length c1] w fun e w' => e = .returned (.bool true) ∧ Below w.heap.size w w' := by
 obtain ⟨k, h⟩ := P a0_0 a0_1 l1 w0_ w1_ w2_ w3_
 refine (signalbenchlaw19_StuffRoundTrips.calls k a0_0 a0_1 A1 c1 l1 true w hr1 hc1 h).mono ?_
 rintro e w' ⟨rfl, hd⟩
 exact ⟨rfl, hd⟩

end Go.Proofs.Ytpgeomgaphodkaa.PStuffRoundTrips
