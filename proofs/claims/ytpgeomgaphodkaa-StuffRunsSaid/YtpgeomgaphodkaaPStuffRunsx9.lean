-- Written by a program of this session (wip/tools/pr.py), which calls the kit's print with changes of its own.
import Derived.Test.YtpgeomgaphodkaaPStuffRunsx0
import Derived.Test.YtpgeomgaphodkaaPStuffRunsx5
import Derived.Test.YtpgeomgaphodkaaPStuffRunsx7
import Derived.Test.YtpgeomgaphodkaaPStuffRunsx8
namespace Go.Proofs.Ytpgeomgaphodkaa.PStuffRuns
open Go.RowKit Go.Proofs.YtpgeomgaphodkaaW.PrintWords Go.Proofs.YtpgeomgaphodkaaW.PrintLast Go.Proofs.YtpgeomgaphodkaaW.PrintMore
attribute [local go_sem] max2_int min2_int max_two min_two max_three min_three max_four min_four   -- for this text's walks alone
set_option linter.unusedVariables false
set_option linter.unusedSimpArgs false

/-! ### signalbenchlaw19_StuffRuns: function 7 -/
mutual
def signalbenchlaw19_StuffRuns.j0 : Nat → List (S45) → Int → Bool → Option (Bool)
 | 0, _, _, _ => none
 | k + 1, x1, x224000, x224001 => signalbenchlaw19_StuffRuns.l0 k x1 0 x224000 x224001
def signalbenchlaw19_StuffRuns.l0 : Nat → List (S45) → Int → Int → Bool → Option (Bool)
 | 0, _, _, _, _ => none
 | k + 1, x1, x5, x224000, x224001 => if x5 < (x1.length : Int) then (if 0 ≤ x5 then (if ((rd_T45 x1 x5).f4) = 0 then (signalbenchlaw19_StuffRuns.l0 k x1 (wrap64 (x5 + 1)) x224000 x224001) else ((signalbenchlaw19_awake.f k).bind fun t227 => (some t227))) else (none)) else ((stuff_Encode.f k x224000 x224001 x1).bind fun bt228 => (if bt228.2 = 0 then (signalbenchlaw19_StuffRuns.j2 k bt228.1 x224000 x224001) else (if (bt228.1.length : Int) = 0 then ((signalbenchlaw19_awake.f k).bind fun t232 => (some t232)) else (some false))))
def signalbenchlaw19_StuffRuns.j2 : Nat → List (S45) → Int → Bool → Option (Bool)
 | 0, _, _, _ => none
 | k + 1, x6, x224000, x224001 => signalbenchlaw19_StuffRuns.l1 k x6 0 48 0 x224000 x224001
def signalbenchlaw19_StuffRuns.l1 : Nat → List (S45) → Int → Int → Int → Int → Bool → Option (Bool)
 | 0, _, _, _, _, _, _ => none
 | k + 1, x6, x8, x9, x10, x224000, x224001 => if x10 < (x6.length : Int) then (signalbenchlaw19_StuffRuns.j4 k x6 x8 x9 x10 x224000 x224001) else ((signalbenchlaw19_awake.f k).bind fun t233 => (some t233))
def signalbenchlaw19_StuffRuns.j4 : Nat → List (S45) → Int → Int → Int → Int → Bool → Option (Bool)
 | 0, _, _, _, _, _, _ => none
 | k + 1, x6, x8, x9, x10, x224000, x224001 => signalbenchlaw19_StuffRuns.l2 k x6 x8 x9 x10 0 x224000 x224001
def signalbenchlaw19_StuffRuns.l2 : Nat → List (S45) → Int → Int → Int → Int → Int → Bool → Option (Bool)
 | 0, _, _, _, _, _, _, _ => none
 | k + 1, x6, x8, x9, x10, x11, x224000, x224001 => if 0 ≤ x10 then (if x10 < (x6.length : Int) then (if x11 < (((rd_T45 x6 x10).f3).size : Int) then (if 0 ≤ x11 then (if x8 > 0 then (signalbenchlaw19_StuffRuns.j6 k x6 x8 x10 x11 (bt ((rd_T45 x6 x10).f3) x11) ((bt ((rd_T45 x6 x10).f3) x11) == x9) x224000 x224001) else (signalbenchlaw19_StuffRuns.j6 k x6 x8 x10 x11 (bt ((rd_T45 x6 x10).f3) x11) false x224000 x224001)) else (none)) else (signalbenchlaw19_StuffRuns.l1 k x6 x8 x9 (wrap64 (x10 + 1)) x224000 x224001)) else (none)) else (none)
def signalbenchlaw19_StuffRuns.j6 : Nat → List (S45) → Int → Int → Int → Int → Bool → Int → Bool → Option (Bool)
 | 0, _, _, _, _, _, _, _, _ => none
 | k + 1, x6, x8, x10, x11, x12, x73, x224000, x224001 => if x73 = true then (if (wrap64 (x8 + 1)) > x224000 then (if x224001 = true then (if x12 = 49 then (some false) else (signalbenchlaw19_StuffRuns.l2 k x6 (wrap64 (x8 + 1)) x12 x10 (wrap64 (x11 + 1)) x224000 x224001)) else (some false)) else (signalbenchlaw19_StuffRuns.l2 k x6 (wrap64 (x8 + 1)) x12 x10 (wrap64 (x11 + 1)) x224000 x224001)) else (if 1 > x224000 then (if x224001 = true then (if x12 = 49 then (some false) else (signalbenchlaw19_StuffRuns.l2 k x6 1 x12 x10 (wrap64 (x11 + 1)) x224000 x224001)) else (some false)) else (signalbenchlaw19_StuffRuns.l2 k x6 1 x12 x10 (wrap64 (x11 + 1)) x224000 x224001))
end
def signalbenchlaw19_StuffRuns.f (k : Nat) (a0_0 : Int) (a0_1 : Bool) (l1 : List (S45)) : Option (Bool) := (signalbenchlaw19_tiny.f k l1).bind fun t224 => (if t224 = true then (signalbenchlaw19_StuffRuns.j0 k l1 a0_0 a0_1) else ((signalbenchlaw19_awake.f k).bind fun t225 => (some t225)))
theorem signalbenchlaw19_StuffRuns.mono_l : ∀ k, (∀ y0 y1 y2, LeO (signalbenchlaw19_StuffRuns.j0 k y0 y1 y2) (signalbenchlaw19_StuffRuns.j0 (k + 1) y0 y1 y2)) ∧ (∀ y0 y1 y2 y3, LeO (signalbenchlaw19_StuffRuns.l0 k y0 y1 y2 y3) (signalbenchlaw19_StuffRuns.l0 (k + 1) y0 y1 y2 y3)) ∧ (∀ y0 y1 y2, LeO (signalbenchlaw19_StuffRuns.j2 k y0 y1 y2) (signalbenchlaw19_StuffRuns.j2 (k + 1) y0 y1 y2)) ∧ (∀ y0 y1 y2 y3 y4 y5, LeO (signalbenchlaw19_StuffRuns.l1 k y0 y1 y2 y3 y4 y5) (signalbenchlaw19_StuffRuns.l1 (k + 1) y0 y1 y2 y3 y4 y5)) ∧ (∀ y0 y1 y2 y3 y4 y5, LeO (signalbenchlaw19_StuffRuns.j4 k y0 y1 y2 y3 y4 y5) (signalbenchlaw19_StuffRuns.j4 (k + 1) y0 y1 y2 y3 y4 y5)) ∧ (∀ y0 y1 y2 y3 y4 y5 y6, LeO (signalbenchlaw19_StuffRuns.l2 k y0 y1 y2 y3 y4 y5 y6) (signalbenchlaw19_StuffRuns.l2 (k + 1) y0 y1 y2 y3 y4 y5 y6)) ∧ (∀ y0 y1 y2 y3 y4 y5 y6 y7, LeO (signalbenchlaw19_StuffRuns.j6 k y0 y1 y2 y3 y4 y5 y6 y7) (signalbenchlaw19_StuffRuns.j6 (k + 1) y0 y1 y2 y3 y4 y5 y6 y7))
 | 0 => ⟨fun _ _ _ r h => by simp [signalbenchlaw19_StuffRuns.j0] at h, fun _ _ _ _ r h => by simp [signalbenchlaw19_StuffRuns.l0] at h, fun _ _ _ r h => by simp [signalbenchlaw19_StuffRuns.j2] at h, fun _ _ _ _ _ _ r h => by simp [signalbenchlaw19_StuffRuns.l1] at h, fun _ _ _ _ _ _ r h => by simp [signalbenchlaw19_StuffRuns.j4] at h, fun _ _ _ _ _ _ _ r h => by simp [signalbenchlaw19_StuffRuns.l2] at h, fun _ _ _ _ _ _ _ _ r h => by simp [signalbenchlaw19_StuffRuns.j6] at h⟩
 | k + 1 => by
  obtain ⟨ih0, ih1, ih2, ih3, ih4, ih5, ih6⟩ := signalbenchlaw19_StuffRuns.mono_l k
  refine ⟨?_, ?_, ?_, ?_, ?_, ?_, ?_⟩
  ·intro y0 y1 y2
   unfold signalbenchlaw19_StuffRuns.j0
   repeat' first
   | (with_reducible exact ih0 _ _ _)
   | (with_reducible exact ih1 _ _ _ _)
   | (with_reducible exact ih2 _ _ _)
   | (with_reducible exact ih3 _ _ _ _ _ _)
   | (with_reducible exact ih4 _ _ _ _ _ _)
   | (with_reducible exact ih5 _ _ _ _ _ _ _)
   | (with_reducible exact ih6 _ _ _ _ _ _ _ _)
   | (with_reducible exact signalbenchlaw19_awake.mono _)
   | (with_reducible exact signalbenchlaw19_tiny.mono _ _)
   | (with_reducible exact stuff_Encode.mono _ _ _ _)
   | (with_reducible exact LeO.refl _)
   | (with_reducible exact LeO.none _)
   | (with_reducible refine LeO.ite ?_ ?_)
   | (with_reducible refine LeO.bind ?_ (fun _ => ?_))
   | exact ih0 _ _ _
   | exact ih1 _ _ _ _
   | exact ih2 _ _ _
   | exact ih3 _ _ _ _ _ _
   | exact ih4 _ _ _ _ _ _
   | exact ih5 _ _ _ _ _ _ _
   | exact ih6 _ _ _ _ _ _ _ _
   | exact signalbenchlaw19_awake.mono _
   | exact signalbenchlaw19_tiny.mono _ _
   | exact stuff_Encode.mono _ _ _ _
   | exact LeO.none _
   | refine LeO.ite ?_ ?_
   | refine LeO.bind ?_ (fun _ => ?_)
  ·intro y0 y1 y2 y3
   unfold signalbenchlaw19_StuffRuns.l0
   repeat' first
   | (with_reducible exact ih0 _ _ _)
   | (with_reducible exact ih1 _ _ _ _)
   | (with_reducible exact ih2 _ _ _)
   | (with_reducible exact ih3 _ _ _ _ _ _)
   | (with_reducible exact ih4 _ _ _ _ _ _)
   | (with_reducible exact ih5 _ _ _ _ _ _ _)
   | (with_reducible exact ih6 _ _ _ _ _ _ _ _)
   | (with_reducible exact signalbenchlaw19_awake.mono _)
   | (with_reducible exact signalbenchlaw19_tiny.mono _ _)
   | (with_reducible exact stuff_Encode.mono _ _ _ _)
   | (with_reducible exact LeO.refl _)
   | (with_reducible exact LeO.none _)
   | (with_reducible refine LeO.ite ?_ ?_)
   | (with_reducible refine LeO.bind ?_ (fun _ => ?_))
   | exact ih0 _ _ _
   | exact ih1 _ _ _ _
   | exact ih2 _ _ _
   | exact ih3 _ _ _ _ _ _
   | exact ih4 _ _ _ _ _ _
   | exact ih5 _ _ _ _ _ _ _
   | exact ih6 _ _ _ _ _ _ _ _
   | exact signalbenchlaw19_awake.mono _
   | exact signalbenchlaw19_tiny.mono _ _
   | exact stuff_Encode.mono _ _ _ _
   | exact LeO.none _
   | refine LeO.ite ?_ ?_
   | refine LeO.bind ?_ (fun _ => ?_)
  ·intro y0 y1 y2
   unfold signalbenchlaw19_StuffRuns.j2
   repeat' first
   | (with_reducible exact ih0 _ _ _)
   | (with_reducible exact ih1 _ _ _ _)
   | (with_reducible exact ih2 _ _ _)
   | (with_reducible exact ih3 _ _ _ _ _ _)
   | (with_reducible exact ih4 _ _ _ _ _ _)
   | (with_reducible exact ih5 _ _ _ _ _ _ _)
   | (with_reducible exact ih6 _ _ _ _ _ _ _ _)
   | (with_reducible exact signalbenchlaw19_awake.mono _)
   | (with_reducible exact signalbenchlaw19_tiny.mono _ _)
   | (with_reducible exact stuff_Encode.mono _ _ _ _)
   | (with_reducible exact LeO.refl _)
   | (with_reducible exact LeO.none _)
   | (with_reducible refine LeO.ite ?_ ?_)
   | (with_reducible refine LeO.bind ?_ (fun _ => ?_))
   | exact ih0 _ _ _
   | exact ih1 _ _ _ _
   | exact ih2 _ _ _
   | exact ih3 _ _ _ _ _ _
   | exact ih4 _ _ _ _ _ _
   | exact ih5 _ _ _ _ _ _ _
   | exact ih6 _ _ _ _ _ _ _ _
   | exact signalbenchlaw19_awake.mono _
   | exact signalbenchlaw19_tiny.mono _ _
   | exact stuff_Encode.mono _ _ _ _
   | exact LeO.none _
   | refine LeO.ite ?_ ?_
   | refine LeO.bind ?_ (fun _ => ?_)
  ·intro y0 y1 y2 y3 y4 y5
   unfold signalbenchlaw19_StuffRuns.l1
   repeat' first
   | (with_reducible exact ih0 _ _ _)
   | (with_reducible exact ih1 _ _ _ _)
   | (with_reducible exact ih2 _ _ _)
   | (with_reducible exact ih3 _ _ _ _ _ _)
   | (with_reducible exact ih4 _ _ _ _ _ _)
   | (with_reducible exact ih5 _ _ _ _ _ _ _)
   | (with_reducible exact ih6 _ _ _ _ _ _ _ _)
   | (with_reducible exact signalbenchlaw19_awake.mono _)
   | (with_reducible exact signalbenchlaw19_tiny.mono _ _)
   | (with_reducible exact stuff_Encode.mono _ _ _ _)
   | (with_reducible exact LeO.refl _)
   | (with_reducible exact LeO.none _)
   | (with_reducible refine LeO.ite ?_ ?_)
   | (with_reducible refine LeO.bind ?_ (fun _ => ?_))
   | exact ih0 _ _ _
   | exact ih1 _ _ _ _
   | exact ih2 _ _ _
   | exact ih3 _ _ _ _ _ _
   | exact ih4 _ _ _ _ _ _
   | exact ih5 _ _ _ _ _ _ _
   | exact ih6 _ _ _ _ _ _ _ _
   | exact signalbenchlaw19_awake.mono _
   | exact signalbenchlaw19_tiny.mono _ _
   | exact stuff_Encode.mono _ _ _ _
   | exact LeO.none _
   | refine LeO.ite ?_ ?_
   | refine LeO.bind ?_ (fun _ => ?_)
  ·intro y0 y1 y2 y3 y4 y5
   unfold signalbenchlaw19_StuffRuns.j4
   repeat' first
   | (with_reducible exact ih0 _ _ _)
   | (with_reducible exact ih1 _ _ _ _)
   | (with_reducible exact ih2 _ _ _)
   | (with_reducible exact ih3 _ _ _ _ _ _)
   | (with_reducible exact ih4 _ _ _ _ _ _)
   | (with_reducible exact ih5 _ _ _ _ _ _ _)
   | (with_reducible exact ih6 _ _ _ _ _ _ _ _)
   | (with_reducible exact signalbenchlaw19_awake.mono _)
   | (with_reducible exact signalbenchlaw19_tiny.mono _ _)
   | (with_reducible exact stuff_Encode.mono _ _ _ _)
   | (with_reducible exact LeO.refl _)
   | (with_reducible exact LeO.none _)
   | (with_reducible refine LeO.ite ?_ ?_)
   | (with_reducible refine LeO.bind ?_ (fun _ => ?_))
   | exact ih0 _ _ _
   | exact ih1 _ _ _ _
   | exact ih2 _ _ _
   | exact ih3 _ _ _ _ _ _
   | exact ih4 _ _ _ _ _ _
   | exact ih5 _ _ _ _ _ _ _
   | exact ih6 _ _ _ _ _ _ _ _
   | exact signalbenchlaw19_awake.mono _
   | exact signalbenchlaw19_tiny.mono _ _
   | exact stuff_Encode.mono _ _ _ _
   | exact LeO.none _
   | refine LeO.ite ?_ ?_
   | refine LeO.bind ?_ (fun _ => ?_)
  ·intro y0 y1 y2 y3 y4 y5 y6
   unfold signalbenchlaw19_StuffRuns.l2
   repeat' first
   | (with_reducible exact ih0 _ _ _)
   | (with_reducible exact ih1 _ _ _ _)
   | (with_reducible exact ih2 _ _ _)
   | (with_reducible exact ih3 _ _ _ _ _ _)
   | (with_reducible exact ih4 _ _ _ _ _ _)
   | (with_reducible exact ih5 _ _ _ _ _ _ _)
   | (with_reducible exact ih6 _ _ _ _ _ _ _ _)
   | (with_reducible exact signalbenchlaw19_awake.mono _)
   | (with_reducible exact signalbenchlaw19_tiny.mono _ _)
   | (with_reducible exact stuff_Encode.mono _ _ _ _)
   | (with_reducible exact LeO.refl _)
   | (with_reducible exact LeO.none _)
   | (with_reducible refine LeO.ite ?_ ?_)
   | (with_reducible refine LeO.bind ?_ (fun _ => ?_))
   | exact ih0 _ _ _
   | exact ih1 _ _ _ _
   | exact ih2 _ _ _
   | exact ih3 _ _ _ _ _ _
   | exact ih4 _ _ _ _ _ _
   | exact ih5 _ _ _ _ _ _ _
   | exact ih6 _ _ _ _ _ _ _ _
   | exact signalbenchlaw19_awake.mono _
   | exact signalbenchlaw19_tiny.mono _ _
   | exact stuff_Encode.mono _ _ _ _
   | exact LeO.none _
   | refine LeO.ite ?_ ?_
   | refine LeO.bind ?_ (fun _ => ?_)
  ·intro y0 y1 y2 y3 y4 y5 y6 y7
   unfold signalbenchlaw19_StuffRuns.j6
   repeat' first
   | (with_reducible exact ih0 _ _ _)
   | (with_reducible exact ih1 _ _ _ _)
   | (with_reducible exact ih2 _ _ _)
   | (with_reducible exact ih3 _ _ _ _ _ _)
   | (with_reducible exact ih4 _ _ _ _ _ _)
   | (with_reducible exact ih5 _ _ _ _ _ _ _)
   | (with_reducible exact ih6 _ _ _ _ _ _ _ _)
   | (with_reducible exact signalbenchlaw19_awake.mono _)
   | (with_reducible exact signalbenchlaw19_tiny.mono _ _)
   | (with_reducible exact stuff_Encode.mono _ _ _ _)
   | (with_reducible exact LeO.refl _)
   | (with_reducible exact LeO.none _)
   | (with_reducible refine LeO.ite ?_ ?_)
   | (with_reducible refine LeO.bind ?_ (fun _ => ?_))
   | exact ih0 _ _ _
   | exact ih1 _ _ _ _
   | exact ih2 _ _ _
   | exact ih3 _ _ _ _ _ _
   | exact ih4 _ _ _ _ _ _
   | exact ih5 _ _ _ _ _ _ _
   | exact ih6 _ _ _ _ _ _ _ _
   | exact signalbenchlaw19_awake.mono _
   | exact signalbenchlaw19_tiny.mono _ _
   | exact stuff_Encode.mono _ _ _ _
   | exact LeO.none _
   | refine LeO.ite ?_ ?_
   | refine LeO.bind ?_ (fun _ => ?_)
theorem signalbenchlaw19_StuffRuns.mono : ∀ a0 a1 a2 k, LeO (signalbenchlaw19_StuffRuns.f k a0 a1 a2) (signalbenchlaw19_StuffRuns.f (k + 1) a0 a1 a2) := by
 intro a0 a1 a2 k
 obtain ⟨ih0, ih1, ih2, ih3, ih4, ih5, ih6⟩ := signalbenchlaw19_StuffRuns.mono_l k
 unfold signalbenchlaw19_StuffRuns.f
 repeat' first
   | (with_reducible exact ih0 _ _ _)
   | (with_reducible exact ih1 _ _ _ _)
   | (with_reducible exact ih2 _ _ _)
   | (with_reducible exact ih3 _ _ _ _ _ _)
   | (with_reducible exact ih4 _ _ _ _ _ _)
   | (with_reducible exact ih5 _ _ _ _ _ _ _)
   | (with_reducible exact ih6 _ _ _ _ _ _ _ _)
   | (with_reducible exact signalbenchlaw19_awake.mono _)
   | (with_reducible exact signalbenchlaw19_tiny.mono _ _)
   | (with_reducible exact stuff_Encode.mono _ _ _ _)
   | (with_reducible exact LeO.refl _)
   | (with_reducible exact LeO.none _)
   | (with_reducible refine LeO.ite ?_ ?_)
   | (with_reducible refine LeO.bind ?_ (fun _ => ?_))
   | exact ih0 _ _ _
   | exact ih1 _ _ _ _
   | exact ih2 _ _ _
   | exact ih3 _ _ _ _ _ _
   | exact ih4 _ _ _ _ _ _
   | exact ih5 _ _ _ _ _ _ _
   | exact ih6 _ _ _ _ _ _ _ _
   | exact signalbenchlaw19_awake.mono _
   | exact signalbenchlaw19_tiny.mono _ _
   | exact stuff_Encode.mono _ _ _ _
   | exact LeO.none _
   | refine LeO.ite ?_ ?_
   | refine LeO.bind ?_ (fun _ => ?_)
set_option maxHeartbeats 8000000 in
set_option maxRecDepth 100000 in
theorem signalbenchlaw19_StuffRuns.calls (k : Nat) (a0_0 : Int) (a0_1 : Bool) (A1 : Option Addr) (c1 : Nat) (l1 : List (S45)) (r : Bool) (w : World) (hr1 : Kd.C k45 w A1 l1.length l1) (hc1 : l1.length ≤ c1) (h : signalbenchlaw19_StuffRuns.f k a0_0 a0_1 l1 = some r) :
  Calls Try.prog 7 #[.agg #[.int .i64 a0_0, .bool a0_1], .slice A1 l1.length c1] w fun e w' => e = .returned (.bool r) ∧ Below w.heap.size w w' := by
 have hu23 := Try.underlying23
 have HR1 := Aside0.mk hr1
 have HC1 := Aside0.mk hc1
 clear hr1 hc1
 have HB := Aside0.mk (Below.refl w.heap.size w)
 have H : ((signalbenchlaw19_tiny.f k l1).bind fun t224 => (if t224 = true then (signalbenchlaw19_StuffRuns.j0 k l1 a0_0 a0_1) else ((signalbenchlaw19_awake.f k).bind fun t225 => (some t225)))) = some r := h
 clear h
 replace H := Option.bind_eq_some_iff.mp H
 obtain ⟨t224, A30, H⟩ := H
 replace H : (if t224 = true then (signalbenchlaw19_StuffRuns.j0 k l1 a0_0 a0_1) else ((signalbenchlaw19_awake.f k).bind fun t225 => (some t225))) = some r := H
 have A3 := Aside0.mk A30
 clear A30
 have HC4 := Aside0.mk H
 clear H
 go_enter Try.func7, Try.ntmps7
 go_upto_if 15 with (first | ((with_reducible refine gate_dst (N := 2) rfl ?_); refine box_event ?hg (N := 2) ?hd (cs := #[.int .i64 a0_0, .bool a0_1]) (t := 23) ?hr ?_; (case hd => rfl); (case hg => rfl); (case hr => first | (go_simp; done) | (go_simp; rfl)); intro gb223 hg w5 hbox hb; have n0_ := Aside0.mk (below_step (hbw HB.out) hb); have n1_ := Aside0.mk (hbox); have n2_ := Aside0.mk ((by rw [hg]; exact (below_size (hbw HB.out)) : w.heap.size ≤ gb223)); have n3_ := Aside0.mk ((by rw [hg]; exact (below_size (hbw HB.out)) : w.heap.size ≤ gb223)); clear HB; have HB := n0_; have BK223 := n1_; have GW223 := n2_; have GE223 := n3_; clear n0_ n1_ n2_ n3_; clear hb hbox hg) | ((with_reducible refine gate_callee (f := 20) rfl ?_); refine goesL_ (some 14) rfl rfl Try.func20 (by kernel_rfl) rfl #[.slice A1 l1.length c1] rfl (by (try simp only [List.map_toArray, List.map_cons, List.map_nil]); first | done | rfl | (simp only [List.length_drop, List.length_take]; rfl)) ?_; (with_reducible refine (signalbenchlaw19_tiny.calls k _ _ l1 t224 _ ?side1 ?side2 A3.out).mono ?_); (case side1 => repeat (first | exact (Kd.C_below HR1.out HB.out) | (with_reducible refine Kd.C_alloc ?_ _) | (with_reducible refine Kd.C_drewN ?_ _) | (with_reducible refine Kd.C_drew ?_))); (case side2 => exact HC1.out); rintro e w' ⟨rfl, ⟨nd, rfl⟩⟩; refine ⟨_, rfl, ?_⟩))
 (try simp only [Act.put, List.setIfInBounds_toArray, List.set_cons_zero, List.set_cons_succ])
 go_cut [] (fun wc => ∃ (kq : Nat), Aside0 (signalbenchlaw19_StuffRuns.j0 kq l1 a0_0 a0_1 = some r) ∧ Aside0 (kq ≤ k) ∧ Aside0 (wc.heap[gb223]? = some (.cells #[.int .i64 a0_0, .bool a0_1] 23 (0, 0))) ∧ Aside0 (Below w.heap.size w wc))
 case first =>
  have H := HC4.out
  clear HC4
  by_cases c6 : t224 = true
  ·subst c6
   have H1 : (signalbenchlaw19_StuffRuns.j0 k l1 a0_0 a0_1) = some r := by rw [if_pos rfl] at H; exact H
   clear H
   have H := H1
   clear H1
   have H' := Aside0.mk H
   clear H
   go_wp2
   go_meet
   case rel => exact ⟨_, H', ⟨by first | omega | exact Nat.le_refl _⟩, ⟨by (with_reducible repeat (first | refine blk_drewN ?_ _ | refine blk_drew ?_ | refine blk_alloc ?_ _)); exact BK223.out⟩, ⟨by repeat (first | (with_reducible first | exact HB.out | apply below_alloc | apply pw_below_drewN | apply below_drew1 | refine below_set ?_ GE223.out) | exact HB.out)⟩⟩
  ·replace c6 := Bool.eq_false_iff.mpr c6
   subst c6
   have H1 : ((signalbenchlaw19_awake.f k).bind fun t225 => (some t225)) = some r := by rw [if_neg (show ¬ (false = true) by decide)] at H; exact H
   clear H
   have H := H1
   clear H1
   replace H := Option.bind_eq_some_iff.mp H
   obtain ⟨t225, A70, H⟩ := H
   replace H : (some t225) = some r := H
   have A7 := Aside0.mk A70
   clear A70
   obtain rfl := Option.some.inj H
   go_wp2_with (first | ((with_reducible refine gate_callee (f := 9) rfl ?_); refine goesL_ (some 16) rfl rfl Try.func9 (by kernel_rfl) rfl #[] rfl (by (try simp only [List.map_toArray, List.map_cons, List.map_nil]); first | done | rfl | (simp only [List.length_drop, List.length_take]; rfl)) ?_; (with_reducible refine (signalbenchlaw19_awake.calls k  t225 _ A7.out).mono ?_); rintro e w8 ⟨rfl, hb⟩; refine ⟨_, rfl, ?_⟩; have n0_ := Aside0.mk (blkb BK223.out hb); have n1_ := Aside0.mk (below_step (hbw HB.out) hb); clear BK223; clear HB; have BK223 := n0_; have HB := n1_; clear n0_ n1_; (try clear hb); (try clear hb2); (try clear hk); (try clear hi)))
   go_ret
   exact ⟨by first | rfl | (simp [errW_none, errW_some] <;> rfl) | (simp [*, errW_none, errW_some] <;> rfl), by repeat (first | (with_reducible first | exact HB.out | apply below_alloc | apply pw_below_drewN | apply below_drew1 | refine below_set ?_ GE223.out) | exact HB.out)⟩
 case rest =>
  clear HC4
  try clear c1
  try clear c2
  try clear p2
  try clear c6
  try clear c7
  obtain ⟨kq, HA, HJ3, BK223, HB⟩ := hcut
  cases kq with
  | zero => exact absurd HA.out (by simp [signalbenchlaw19_StuffRuns.j0])
  | succ kj3 =>
   have H := HA.out
   clear HA
   simp only [signalbenchlaw19_StuffRuns.j0] at H
   have H' := Aside0.mk H
   clear H
   go_wp2
   go_loopg [5] kj3 (fun kq v5 w' => ∃ (x5_2 : Int), v5 = .int .i64 x5_2 ∧ Aside0 (signalbenchlaw19_StuffRuns.l0 kq l1 x5_2 a0_0 a0_1 = some r) ∧ Aside0 (kq ≤ kj3) ∧ Aside0 (w'.heap[gb223]? = some (.cells #[.int .i64 a0_0, .bool a0_1] 23 (0, 0))) ∧ Aside0 (Below w.heap.size w w'))
   case atStart => exact ⟨(0), (by first | rfl | (simp; done) | (simp [*]; done)), H', ⟨Nat.le_refl _⟩, ⟨by (with_reducible repeat (first | refine blk_drewN ?_ _ | refine blk_drew ?_ | refine blk_alloc ?_ _)); exact BK223.out⟩, ⟨by repeat (first | (with_reducible first | exact HB.out | apply below_alloc | apply pw_below_drewN | apply below_drew1 | refine below_set ?_ GE223.out) | exact HB.out)⟩⟩
   case round =>
    clear H'
    try clear c1
    try clear c2
    try clear p2
    try clear c6
    try clear c7
    try clear p2
    obtain ⟨x5_2, rfl, HA, HK2, BK223, HB⟩ := hrel
    cases gk with
    | zero => exact absurd HA.out (by simp [signalbenchlaw19_StuffRuns.l0])
    | succ k2 =>
     have H := HA.out
     clear HA
     simp only [signalbenchlaw19_StuffRuns.l0] at H
     by_cases c9 : x5_2 < (l1.length : Int)
     ·rw [if_pos c9] at H
      have c9b0 : decide (x5_2 < (l1.length : Int)) = true := decide_eq_true c9
      clear c9
      by_cases c10 : 0 ≤ x5_2
      ·rw [if_pos c10] at H
       have c10b0 : decide (0 ≤ x5_2) = true := decide_eq_true c10
       clear c10
       by_cases c11 : ((rd_T45 l1 x5_2).f4) = 0
       ·rw [if_pos c11] at H
        have c11b0 : (((rd_T45 l1 x5_2).f4) == 0) = true := beq_iff_eq.mpr c11
        have c11b1 : (((rd_T45 l1 x5_2).f4) != 0) = false := bne_eq_false_iff_eq.mpr c11
        clear c11
        have H' := Aside0.mk H
        clear H
        have p226 : 0 ≤ (x5_2 : Int) := of_decide_eq_true (by first | (with_reducible assumption) | assumption)
        have q226 : x5_2 < (l1.length : Int) := of_decide_eq_true (by first | (with_reducible assumption) | assumption)
        obtain ⟨ad226, e226, hx226_0, hx226_1, hx226_2, hx226_3, hx226_4⟩ := at_T45 HR1.out x5_2 p226 q226
        cases e226
        replace hx226_0 := (HB.out.cell (World.block_lt_of_cell? w _ hx226_0)).trans hx226_0
        replace hx226_1 := (HB.out.cell (World.block_lt_of_cell? w _ hx226_1)).trans hx226_1
        replace hx226_2 := (HB.out.cell (World.block_lt_of_cell? w _ hx226_2)).trans hx226_2
        replace hx226_3 := (HB.out.cell (World.block_lt_of_cell? w _ hx226_3)).trans hx226_3
        replace hx226_4 := (HB.out.cell (World.block_lt_of_cell? w _ hx226_4)).trans hx226_4
        replace p226 := eq_true p226
        replace q226 := eq_true q226
        go_wp2
        go_roundg k2
        case measure => have := HJ3.out; have := HK2.out; omega
        case rel => exact ⟨(wrap64 (x5_2 + 1)), (by first | rfl | (simp; done) | (simp [*]; done)), H', ⟨by have := HJ3.out; have := HK2.out; omega⟩, ⟨by (with_reducible repeat (first | refine blk_drewN ?_ _ | refine blk_drew ?_ | refine blk_alloc ?_ _)); exact BK223.out⟩, ⟨by repeat (first | (with_reducible first | exact HB.out | apply below_alloc | apply pw_below_drewN | apply below_drew1 | refine below_set ?_ GE223.out) | exact HB.out)⟩⟩
       ·rw [if_neg c11] at H
        have c11b0 : (((rd_T45 l1 x5_2).f4) == 0) = false := beq_eq_false_iff_ne.mpr c11
        have c11b1 : (((rd_T45 l1 x5_2).f4) != 0) = true := bne_iff_ne.mpr c11
        replace H := Option.bind_eq_some_iff.mp H
        obtain ⟨t227, A120, H⟩ := H
        replace H : (some t227) = some r := H
        have A12 := Aside0.mk A120
        clear A120
        obtain rfl := Option.some.inj H
        have p226 : 0 ≤ (x5_2 : Int) := of_decide_eq_true (by first | (with_reducible assumption) | assumption)
        have q226 : x5_2 < (l1.length : Int) := of_decide_eq_true (by first | (with_reducible assumption) | assumption)
        obtain ⟨ad226, e226, hx226_0, hx226_1, hx226_2, hx226_3, hx226_4⟩ := at_T45 HR1.out x5_2 p226 q226
        cases e226
        replace hx226_0 := (HB.out.cell (World.block_lt_of_cell? w _ hx226_0)).trans hx226_0
        replace hx226_1 := (HB.out.cell (World.block_lt_of_cell? w _ hx226_1)).trans hx226_1
        replace hx226_2 := (HB.out.cell (World.block_lt_of_cell? w _ hx226_2)).trans hx226_2
        replace hx226_3 := (HB.out.cell (World.block_lt_of_cell? w _ hx226_3)).trans hx226_3
        replace hx226_4 := (HB.out.cell (World.block_lt_of_cell? w _ hx226_4)).trans hx226_4
        replace p226 := eq_true p226
        replace q226 := eq_true q226
        go_wp2_with (first | ((with_reducible refine gate_callee (f := 9) rfl ?_); refine goesL_ (some 29) rfl rfl Try.func9 (by kernel_rfl) rfl #[] rfl (by (try simp only [List.map_toArray, List.map_cons, List.map_nil]); first | done | rfl | (simp only [List.length_drop, List.length_take]; rfl)) ?_; (with_reducible refine (signalbenchlaw19_awake.calls k2  t227 _ A12.out).mono ?_); rintro e w13 ⟨rfl, hb⟩; refine ⟨_, rfl, ?_⟩; have n0_ := Aside0.mk (blkb BK223.out hb); have n1_ := Aside0.mk (below_step (hbw HB.out) hb); clear BK223; clear HB; have BK223 := n0_; have HB := n1_; clear n0_ n1_; (try clear hb); (try clear hb2); (try clear hk); (try clear hi)))
        go_ret
        exact ⟨by first | rfl | (simp [errW_none, errW_some] <;> rfl) | (simp [*, errW_none, errW_some] <;> rfl), by repeat (first | (with_reducible first | exact HB.out | apply below_alloc | apply pw_below_drewN | apply below_drew1 | refine below_set ?_ GE223.out) | exact HB.out)⟩
      ·rw [if_neg c10] at H
       exact absurd H (by simp)
     ·rw [if_neg c9] at H
      have c9b0 : decide (x5_2 < (l1.length : Int)) = false := decide_eq_false c9
      clear c9
      replace H := Option.bind_eq_some_iff.mp H
      obtain ⟨⟨t228, t231⟩, A140, H⟩ := H
      replace H : (if t231 = 0 then (signalbenchlaw19_StuffRuns.j2 k2 t228 a0_0 a0_1) else (if (t228.length : Int) = 0 then ((signalbenchlaw19_awake.f k2).bind fun t232 => (some t232)) else (some false))) = some r := H
      have A14 := Aside0.mk A140
      clear A140
      have HC15 := Aside0.mk H
      clear H
      have hcz16_0 : wr.cell? ⟨gb223, 0, none⟩ = some (.int .i64 a0_0) := (blk_cell BK223.out 0).trans rfl
      have hcz16_1 : wr.cell? ⟨gb223, 1, none⟩ = some (.bool a0_1) := (blk_cell BK223.out 1).trans rfl
      have hfz16_0 := blk_frozen BK223.out 0
      have hfz16_1 := blk_frozen BK223.out 1
      go_upto_if 37 with (first | ((with_reducible refine gate_callee (f := 21) rfl ?_); refine goesL_ (some 33) rfl rfl Try.func21 (by kernel_rfl) rfl #[.agg #[.int .i64 a0_0, .bool a0_1], .slice A1 l1.length c1] rfl (by (try simp only [List.map_toArray, List.map_cons, List.map_nil]); first | done | rfl | (simp only [List.length_drop, List.length_take]; rfl)) ?_; (with_reducible refine (stuff_Encode.calls k2 a0_0 a0_1 _ _ l1 t228 t231 _ ?side1 ?side2 A14.out).mono ?_); (case side1 => repeat (first | exact (Kd.C_below HR1.out HB.out) | (with_reducible refine Kd.C_alloc ?_ _) | (with_reducible refine Kd.C_drewN ?_ _) | (with_reducible refine Kd.C_drew ?_))); (case side2 => exact HC1.out); rintro e w17 ⟨v229, rfl, ho0, hb⟩; refine ⟨_, rfl, ?_⟩; have n0_ := Aside0.mk (Kd.R_lower ho0 (below_size (hbw HB.out))); have n1_ := Aside0.mk (blkb BK223.out hb); have n2_ := Aside0.mk (below_step (hbw HB.out) hb); clear BK223; clear HB; have HO230 := n0_; have BK223 := n1_; have HB := n2_; clear n0_ n1_ n2_; (try clear hb); (try clear hb2); (try clear hk); (try clear hi); (try clear ho0)))
      (try simp only [Act.put, List.setIfInBounds_toArray, List.set_cons_zero, List.set_cons_succ])
      go_cut [] (fun wc => ∃ (kq : Nat), Aside0 (signalbenchlaw19_StuffRuns.j2 kq t228 a0_0 a0_1 = some r) ∧ Aside0 (kq ≤ k2) ∧ Aside0 (Kd.R k45 45 wc w.heap.size (fun _ => True) v229 t228) ∧ Aside0 (wc.heap[gb223]? = some (.cells #[.int .i64 a0_0, .bool a0_1] 23 (0, 0))) ∧ Aside0 (Below w.heap.size w wc))
      case first =>
       have H := HC15.out
       clear HC15
       by_cases c18 : t231 = 0
       ·rw [if_pos c18] at H
        have c18b0 : (t231 == 0) = true := beq_iff_eq.mpr c18
        have c18b1 : (t231 != 0) = false := bne_eq_false_iff_eq.mpr c18
        clear c18
        (first | rw [c18b0] | (simp only [i64_w, i32_w]; rw [c18b0]) | skip)
        have H' := Aside0.mk H
        clear H
        go_wp2
        go_meet
        case rel => exact ⟨_, H', ⟨by have := HJ3.out; have := HK2.out; first | omega | exact Nat.le_refl _⟩, ⟨by (with_reducible repeat (first | apply Kd.R_alloc | apply Kd.R_drewN | apply Kd.R_drew)); exact HO230.out⟩, ⟨by (with_reducible repeat (first | refine blk_drewN ?_ _ | refine blk_drew ?_ | refine blk_alloc ?_ _)); exact BK223.out⟩, ⟨by repeat (first | (with_reducible first | exact HB.out | apply below_alloc | apply pw_below_drewN | apply below_drew1 | refine below_set ?_ GE223.out) | exact HB.out)⟩⟩
       ·rw [if_neg c18] at H
        have c18b0 : (t231 == 0) = false := beq_eq_false_iff_ne.mpr c18
        have c18b1 : (t231 != 0) = true := bne_iff_ne.mpr c18
        (first | rw [c18b0] | (simp only [i64_w, i32_w]; rw [c18b0]) | skip)
        by_cases c19 : (t228.length : Int) = 0
        ·rw [if_pos c19] at H
         have c19b0 : ((t228.length : Int) == 0) = true := beq_iff_eq.mpr c19
         have c19b1 : ((t228.length : Int) != 0) = false := bne_eq_false_iff_eq.mpr c19
         clear c19
         replace H := Option.bind_eq_some_iff.mp H
         obtain ⟨t232, A200, H⟩ := H
         replace H : (some t232) = some r := H
         have A20 := Aside0.mk A200
         clear A200
         obtain rfl := Option.some.inj H
         obtain ⟨Ao21, co21, eo21⟩ := Kd.R_slice HO230.out
         subst eo21
         go_wp2_with (first | (go_at_call 9; (with_reducible refine (signalbenchlaw19_awake.calls k2  t232 _ A20.out).mono ?_); rintro e w22 ⟨rfl, hb⟩; have n0_ := Aside0.mk (Kd.R_below (rkw HO230.out) hb); have n1_ := Aside0.mk (blkb BK223.out hb); have n2_ := Aside0.mk (below_step (hbw HB.out) hb); clear HO230; clear BK223; clear HB; have HO230 := n0_; have BK223 := n1_; have HB := n2_; clear n0_ n1_ n2_; (try clear hb); (try clear hb2); (try clear hk); (try clear hi)))
         go_ret
         exact ⟨by first | rfl | (simp [errW_none, errW_some] <;> rfl) | (simp [*, errW_none, errW_some] <;> rfl), by repeat (first | (with_reducible first | exact HB.out | apply below_alloc | apply pw_below_drewN | apply below_drew1 | refine below_set ?_ GE223.out) | exact HB.out)⟩
        ·rw [if_neg c19] at H
         have c19b0 : ((t228.length : Int) == 0) = false := beq_eq_false_iff_ne.mpr c19
         have c19b1 : ((t228.length : Int) != 0) = true := bne_iff_ne.mpr c19
         have c19b2 : ¬ (t228 = []) := fun h_ => c19 (by rw [h_]; rfl)
         obtain rfl := Option.some.inj H
         obtain ⟨Ao23, co23, eo23⟩ := Kd.R_slice HO230.out
         subst eo23
         go_wp2
         go_ret
         exact ⟨by first | rfl | (simp [errW_none, errW_some] <;> rfl) | (simp [*, errW_none, errW_some] <;> rfl), by repeat (first | (with_reducible first | exact HB.out | apply below_alloc | apply pw_below_drewN | apply below_drew1 | refine below_set ?_ GE223.out) | exact HB.out)⟩
      case rest =>
       clear HC15
       try clear c1
       try clear c2
       try clear p2
       try clear q2
       try clear hx2
       try clear c6
       try clear p6
       try clear c7
       try clear c9
       try clear c9b0
       try clear c10
       try clear c10b0
       try clear c11
       try clear c11b0
       try clear c11b1
       try clear c18
       try clear c18b0
       try clear c18b1
       try clear c19
       try clear c19b0
       try clear c19b1
       try clear c19b2
       try clear c20
       try clear c21
       try clear p22
       try clear q22
       try clear hx22
       try clear hcz16_0
       try clear hcz16_1
       try clear hfz16_0
       try clear hfz16_1
       try clear hx226_0
       try clear hx226_1
       try clear hx226_2
       try clear hx226_3
       try clear hx226_4
       try clear p2
       try clear p226
       try clear q226
       obtain ⟨kq, HA, HJ14, HO_6, BK223, HB⟩ := hcut
       cases kq with
       | zero => exact absurd HA.out (by simp [signalbenchlaw19_StuffRuns.j2])
       | succ kj14 =>
        have H := HA.out
        clear HA
        simp only [signalbenchlaw19_StuffRuns.j2] at H
        have H' := Aside0.mk H
        clear H
        go_wp2
        go_loopg [8, 9, 10] kj14 (fun kq v8 v9 v10 w' => ∃ (x8_4 : Int) (x9_4 : Int) (x10_4 : Int), v8 = .int .i64 x8_4 ∧ v9 = .int .u8 x9_4 ∧ v10 = .int .i64 x10_4 ∧ Aside0 (signalbenchlaw19_StuffRuns.l1 kq t228 x8_4 x9_4 x10_4 a0_0 a0_1 = some r) ∧ Aside0 (kq ≤ kj14) ∧ Aside0 (Kd.R k45 45 w' w.heap.size (fun _ => True) v229 t228) ∧ Aside0 (w'.heap[gb223]? = some (.cells #[.int .i64 a0_0, .bool a0_1] 23 (0, 0))) ∧ Aside0 (Below w.heap.size w w'))
        case atStart => exact ⟨(0), (48), (0), (by first | rfl | (simp; done) | (simp [*]; done)), (by first | rfl | (simp; done) | (simp [*]; done)), (by first | rfl | (simp; done) | (simp [*]; done)), H', ⟨Nat.le_refl _⟩, ⟨by (with_reducible repeat (first | apply Kd.R_alloc | apply Kd.R_drewN | apply Kd.R_drew)); exact HO_6.out⟩, ⟨by (with_reducible repeat (first | refine blk_drewN ?_ _ | refine blk_drew ?_ | refine blk_alloc ?_ _)); exact BK223.out⟩, ⟨by repeat (first | (with_reducible first | exact HB.out | apply below_alloc | apply pw_below_drewN | apply below_drew1 | refine below_set ?_ GE223.out) | exact HB.out)⟩⟩
        case round =>
         clear H'
         try clear c1
         try clear c2
         try clear p2
         try clear q2
         try clear hx2
         try clear c6
         try clear p6
         try clear c7
         try clear c9
         try clear c9b0
         try clear c10
         try clear c10b0
         try clear c11
         try clear c11b0
         try clear c11b1
         try clear c18
         try clear c18b0
         try clear c18b1
         try clear c19
         try clear c19b0
         try clear c19b1
         try clear c19b2
         try clear c20
         try clear c21
         try clear p22
         try clear q22
         try clear hx22
         try clear hcz16_0
         try clear hcz16_1
         try clear hfz16_0
         try clear hfz16_1
         try clear hx226_0
         try clear hx226_1
         try clear hx226_2
         try clear hx226_3
         try clear hx226_4
         try clear p2
         try clear p22
         try clear p226
         try clear p6
         try clear q2
         try clear q22
         try clear q226
         obtain ⟨x8_4, x9_4, x10_4, rfl, rfl, rfl, HA, HK4, HO_6, BK223, HB⟩ := hrel
         cases gk with
         | zero => exact absurd HA.out (by simp [signalbenchlaw19_StuffRuns.l1])
         | succ k4 =>
          have H := HA.out
          clear HA
          simp only [signalbenchlaw19_StuffRuns.l1] at H
          have HC24 := Aside0.mk H
          clear H
          obtain ⟨Ao25, co25, eo25⟩ := Kd.R_slice HO_6.out
          subst eo25
          go_upto_if 47 with (fail)
          go_cut [] (fun wc => ∃ (kq : Nat), Aside0 (signalbenchlaw19_StuffRuns.j4 kq t228 x8_4 x9_4 x10_4 a0_0 a0_1 = some r) ∧ Aside0 (kq ≤ k4) ∧ Aside0 (Kd.R k45 45 wc w.heap.size (fun _ => True) (.slice Ao25 t228.length co25) t228) ∧ Aside0 (wc.heap[gb223]? = some (.cells #[.int .i64 a0_0, .bool a0_1] 23 (0, 0))) ∧ Aside0 (Below w.heap.size w wc))
          case first =>
           have H := HC24.out
           clear HC24
           by_cases c26 : x10_4 < (t228.length : Int)
           ·rw [if_pos c26] at H
            have c26b0 : decide (x10_4 < (t228.length : Int)) = true := decide_eq_true c26
            clear c26
            (first | rw [c26b0] | (simp only [i64_w, i32_w]; rw [c26b0]) | skip)
            have H' := Aside0.mk H
            clear H
            go_wp2
            go_meet
            case rel => exact ⟨_, H', ⟨by have := HJ3.out; have := HK2.out; have := HJ14.out; have := HK4.out; first | omega | exact Nat.le_refl _⟩, ⟨by (with_reducible repeat (first | apply Kd.R_alloc | apply Kd.R_drewN | apply Kd.R_drew)); exact HO_6.out⟩, ⟨by (with_reducible repeat (first | refine blk_drewN ?_ _ | refine blk_drew ?_ | refine blk_alloc ?_ _)); exact BK223.out⟩, ⟨by repeat (first | (with_reducible first | exact HB.out | apply below_alloc | apply pw_below_drewN | apply below_drew1 | refine below_set ?_ GE223.out) | exact HB.out)⟩⟩
           ·rw [if_neg c26] at H
            have c26b0 : decide (x10_4 < (t228.length : Int)) = false := decide_eq_false c26
            clear c26
            (first | rw [c26b0] | (simp only [i64_w, i32_w]; rw [c26b0]) | skip)
            replace H := Option.bind_eq_some_iff.mp H
            obtain ⟨t233, A270, H⟩ := H
            replace H : (some t233) = some r := H
            have A27 := Aside0.mk A270
            clear A270
            obtain rfl := Option.some.inj H
            go_wp2_with (first | ((with_reducible refine gate_callee (f := 9) rfl ?_); refine goesL_ (some 90) rfl rfl Try.func9 (by kernel_rfl) rfl #[] rfl (by (try simp only [List.map_toArray, List.map_cons, List.map_nil]); first | done | rfl | (simp only [List.length_drop, List.length_take]; rfl)) ?_; (with_reducible refine (signalbenchlaw19_awake.calls k4  t233 _ A27.out).mono ?_); rintro e w28 ⟨rfl, hb⟩; refine ⟨_, rfl, ?_⟩; have n0_ := Aside0.mk (Kd.R_below (rkw HO_6.out) hb); have n1_ := Aside0.mk (blkb BK223.out hb); have n2_ := Aside0.mk (below_step (hbw HB.out) hb); clear HO_6; clear BK223; clear HB; have HO_6 := n0_; have BK223 := n1_; have HB := n2_; clear n0_ n1_ n2_; (try clear hb); (try clear hb2); (try clear hk); (try clear hi)))
            go_ret
            exact ⟨by first | rfl | (simp [errW_none, errW_some] <;> rfl) | (simp [*, errW_none, errW_some] <;> rfl), by repeat (first | (with_reducible first | exact HB.out | apply below_alloc | apply pw_below_drewN | apply below_drew1 | refine below_set ?_ GE223.out) | exact HB.out)⟩
          case rest =>
           clear HC24
           try clear c1
           try clear c2
           try clear p2
           try clear q2
           try clear hx2
           try clear c6
           try clear p6
           try clear c7
           try clear c9
           try clear c9b0
           try clear c10
           try clear c10b0
           try clear c11
           try clear c11b0
           try clear c11b1
           try clear c18
           try clear c18b0
           try clear c18b1
           try clear c19
           try clear c19b0
           try clear c19b1
           try clear c19b2
           try clear c20
           try clear c21
           try clear p22
           try clear q22
           try clear hx22
           try clear c26
           try clear c26b0
           try clear hcz16_0
           try clear hcz16_1
           try clear hfz16_0
           try clear hfz16_1
           try clear hx226_0
           try clear hx226_1
           try clear hx226_2
           try clear hx226_3
           try clear hx226_4
           try clear p2
           try clear p22
           try clear p226
           try clear p6
           try clear q2
           try clear q22
           try clear q226
           obtain ⟨kq, HA, HJ23, HO_6, BK223, HB⟩ := hcut
           cases kq with
           | zero => exact absurd HA.out (by simp [signalbenchlaw19_StuffRuns.j4])
           | succ kj23 =>
            have H := HA.out
            clear HA
            simp only [signalbenchlaw19_StuffRuns.j4] at H
            have H' := Aside0.mk H
            clear H
            go_wp2
            go_loopg [8, 9, 11] kj23 (fun kq v8 v9 v11 w' => ∃ (x8_6 : Int) (x9_6 : Int) (x11_6 : Int), v8 = .int .i64 x8_6 ∧ v9 = .int .u8 x9_6 ∧ v11 = .int .i64 x11_6 ∧ Aside0 (signalbenchlaw19_StuffRuns.l2 kq t228 x8_6 x9_6 x10_4 x11_6 a0_0 a0_1 = some r) ∧ Aside0 (kq ≤ kj23) ∧ Aside0 (Kd.R k45 45 w' w.heap.size (fun _ => True) (.slice Ao25 t228.length co25) t228) ∧ Aside0 (w'.heap[gb223]? = some (.cells #[.int .i64 a0_0, .bool a0_1] 23 (0, 0))) ∧ Aside0 (Below w.heap.size w w'))
            case atStart => exact ⟨(x8_4), (x9_4), (0), (by first | rfl | (simp; done) | (simp [*]; done)), (by first | rfl | (simp; done) | (simp [*]; done)), (by first | rfl | (simp; done) | (simp [*]; done)), H', ⟨Nat.le_refl _⟩, ⟨by (with_reducible repeat (first | apply Kd.R_alloc | apply Kd.R_drewN | apply Kd.R_drew)); exact HO_6.out⟩, ⟨by (with_reducible repeat (first | refine blk_drewN ?_ _ | refine blk_drew ?_ | refine blk_alloc ?_ _)); exact BK223.out⟩, ⟨by repeat (first | (with_reducible first | exact HB.out | apply below_alloc | apply pw_below_drewN | apply below_drew1 | refine below_set ?_ GE223.out) | exact HB.out)⟩⟩
            case round =>
             clear H'
             try clear c1
             try clear c2
             try clear p2
             try clear q2
             try clear hx2
             try clear c6
             try clear p6
             try clear c7
             try clear c9
             try clear c9b0
             try clear c10
             try clear c10b0
             try clear c11
             try clear c11b0
             try clear c11b1
             try clear c18
             try clear c18b0
             try clear c18b1
             try clear c19
             try clear c19b0
             try clear c19b1
             try clear c19b2
             try clear c20
             try clear c21
             try clear p22
             try clear q22
             try clear hx22
             try clear c26
             try clear c26b0
             try clear hcz16_0
             try clear hcz16_1
             try clear hfz16_0
             try clear hfz16_1
             try clear hx226_0
             try clear hx226_1
             try clear hx226_2
             try clear hx226_3
             try clear hx226_4
             try clear p2
             try clear p22
             try clear p226
             try clear p6
             try clear q2
             try clear q22
             try clear q226
             obtain ⟨x8_6, x9_6, x11_6, rfl, rfl, rfl, HA, HK6, HO_6, BK223, HB⟩ := hrel
             cases gk with
             | zero => exact absurd HA.out (by simp [signalbenchlaw19_StuffRuns.l2])
             | succ k6 =>
              have H := HA.out
              clear HA
              simp only [signalbenchlaw19_StuffRuns.l2] at H
              by_cases c29 : 0 ≤ x10_4
              ·rw [if_pos c29] at H
               have c29b0 : decide (0 ≤ x10_4) = true := decide_eq_true c29
               clear c29
               by_cases c30 : x10_4 < (t228.length : Int)
               ·rw [if_pos c30] at H
                have c30b0 : decide (x10_4 < (t228.length : Int)) = true := decide_eq_true c30
                clear c30
                by_cases c31 : x11_6 < (((rd_T45 t228 x10_4).f3).size : Int)
                ·rw [if_pos c31] at H
                 have c31b0 : decide (x11_6 < (((rd_T45 t228 x10_4).f3).size : Int)) = true := decide_eq_true c31
                 clear c31
                 by_cases c32 : 0 ≤ x11_6
                 ·rw [if_pos c32] at H
                  have c32b0 : decide (0 ≤ x11_6) = true := decide_eq_true c32
                  clear c32
                  have HC34 := Aside0.mk H
                  clear H
                  have p234 : 0 ≤ (x10_4 : Int) := of_decide_eq_true (by first | (with_reducible assumption) | assumption)
                  have q234 : x10_4 < (t228.length : Int) := of_decide_eq_true (by first | (with_reducible assumption) | assumption)
                  obtain ⟨ad234, e234, hx234_0, hx234_1, hx234_2, hx234_3, hx234_4⟩ := at_T45 (Kd.R_reads' HO_6.out).2.2 x10_4 p234 q234
                  cases e234
                  replace p234 := eq_true p234
                  replace q234 := eq_true q234
                  have p235 : 0 ≤ (x10_4 : Int) := of_decide_eq_true (by first | (with_reducible assumption) | assumption)
                  have q235 : x10_4 < (t228.length : Int) := of_decide_eq_true (by first | (with_reducible assumption) | assumption)
                  obtain ⟨ad235, e235, hx235_0, hx235_1, hx235_2, hx235_3, hx235_4⟩ := at_T45 (Kd.R_reads' HO_6.out).2.2 x10_4 p235 q235
                  obtain rfl : ad234 = ad235 := (by injection e235)
                  replace p235 := eq_true p235
                  replace q235 := eq_true q235
                  have p33 : 0 ≤ (x11_6 : Int) := of_decide_eq_true (by first | (with_reducible assumption) | assumption)
                  have q33 : x11_6 < (((rd_T45 t228 x10_4).f3).size : Int) := of_decide_eq_true (by first | (with_reducible assumption) | assumption)
                  have hx33 := bt_at ((rd_T45 t228 x10_4).f3) x11_6
                  replace p33 := eq_true p33
                  replace q33 := eq_true q33
                  go_upto_region 19 with (fail)
                  go_cut [73] (fun v73 wc => ∃ (kq : Nat) (x73_33 : Bool), v73 = .bool x73_33 ∧ Aside0 (signalbenchlaw19_StuffRuns.j6 kq t228 x8_6 x10_4 x11_6 (bt ((rd_T45 t228 x10_4).f3) x11_6) x73_33 a0_0 a0_1 = some r) ∧ Aside0 (kq ≤ k6) ∧ Aside0 (Kd.R k45 45 wc w.heap.size (fun _ => True) (.slice (some ad234) t228.length co25) t228) ∧ Aside0 (wc.heap[gb223]? = some (.cells #[.int .i64 a0_0, .bool a0_1] 23 (0, 0))) ∧ Aside0 (Below w.heap.size w wc))
                  case first =>
                   have H := HC34.out
                   clear HC34
                   by_cases c35 : x8_6 > 0
                   ·rw [if_pos c35] at H
                    have c35b0 : decide (0 < x8_6) = true := decide_eq_true c35
                    clear c35
                    (first | rw [c35b0] | (simp only [i64_w, i32_w]; rw [c35b0]) | skip)
                    have H' := Aside0.mk H
                    clear H
                    go_wp2
                    go_meet
                    case rel => exact ⟨_, (((bt ((rd_T45 t228 x10_4).f3) x11_6) == x9_6)), (by first | rfl | (simp; done) | (simp [*]; done)), H', ⟨by have := HJ3.out; have := HK2.out; have := HJ14.out; have := HK4.out; have := HJ23.out; have := HK6.out; first | omega | exact Nat.le_refl _⟩, ⟨by (with_reducible repeat (first | apply Kd.R_alloc | apply Kd.R_drewN | apply Kd.R_drew)); exact HO_6.out⟩, ⟨by (with_reducible repeat (first | refine blk_drewN ?_ _ | refine blk_drew ?_ | refine blk_alloc ?_ _)); exact BK223.out⟩, ⟨by repeat (first | (with_reducible first | exact HB.out | apply below_alloc | apply pw_below_drewN | apply below_drew1 | refine below_set ?_ GE223.out) | exact HB.out)⟩⟩
                   ·rw [if_neg c35] at H
                    have c35b0 : decide (0 < x8_6) = false := decide_eq_false c35
                    clear c35
                    (first | rw [c35b0] | (simp only [i64_w, i32_w]; rw [c35b0]) | skip)
                    have H' := Aside0.mk H
                    clear H
                    go_wp2
                    go_meet
                    case rel => exact ⟨_, (false), (by first | rfl | (simp; done) | (simp [*]; done)), H', ⟨by have := HJ3.out; have := HK2.out; have := HJ14.out; have := HK4.out; have := HJ23.out; have := HK6.out; first | omega | exact Nat.le_refl _⟩, ⟨by (with_reducible repeat (first | apply Kd.R_alloc | apply Kd.R_drewN | apply Kd.R_drew)); exact HO_6.out⟩, ⟨by (with_reducible repeat (first | refine blk_drewN ?_ _ | refine blk_drew ?_ | refine blk_alloc ?_ _)); exact BK223.out⟩, ⟨by repeat (first | (with_reducible first | exact HB.out | apply below_alloc | apply pw_below_drewN | apply below_drew1 | refine below_set ?_ GE223.out) | exact HB.out)⟩⟩
                  case rest =>
                   clear HC34
                   try clear c1
                   try clear c2
                   try clear p2
                   try clear q2
                   try clear hx2
                   try clear c3
                   try clear p3
                   try clear q3
                   try clear hx3
                   try clear c6
                   try clear p6
                   try clear c7
                   try clear c9
                   try clear c9b0
                   try clear c10
                   try clear c10b0
                   try clear c11
                   try clear c11b0
                   try clear c11b1
                   try clear c18
                   try clear c18b0
                   try clear c18b1
                   try clear c19
                   try clear c19b0
                   try clear c19b1
                   try clear c19b2
                   try clear c20
                   try clear c21
                   try clear p22
                   try clear q22
                   try clear hx22
                   try clear p23
                   try clear q23
                   try clear hx23
                   try clear c26
                   try clear c26b0
                   try clear c29
                   try clear c29b0
                   try clear c30
                   try clear c30b0
                   try clear c31
                   try clear c31b0
                   try clear c32
                   try clear c32b0
                   try clear p33
                   try clear q33
                   try clear hx33
                   try clear c35
                   try clear c35b0
                   try clear hcz16_0
                   try clear hcz16_1
                   try clear hfz16_0
                   try clear hfz16_1
                   try clear hx226_0
                   try clear hx226_1
                   try clear hx226_2
                   try clear hx226_3
                   try clear hx226_4
                   try clear hx234_0
                   try clear hx234_1
                   try clear hx234_2
                   try clear hx234_3
                   try clear hx234_4
                   try clear hx235_0
                   try clear hx235_1
                   try clear hx235_2
                   try clear hx235_3
                   try clear hx235_4
                   try clear p2
                   try clear p22
                   try clear p226
                   try clear p234
                   try clear p235
                   try clear p33
                   try clear p6
                   try clear q2
                   try clear q22
                   try clear q226
                   try clear q234
                   try clear q235
                   try clear q33
                   obtain ⟨kq, x73_33, rfl, HA, HJ33, HO_6, BK223, HB⟩ := hcut
                   cases kq with
                   | zero => exact absurd HA.out (by simp [signalbenchlaw19_StuffRuns.j6])
                   | succ kj33 =>
                    have H := HA.out
                    clear HA
                    simp only [signalbenchlaw19_StuffRuns.j6] at H
                    by_cases c36 : x73_33 = true
                    ·subst c36
                     have H1 : (if (wrap64 (x8_6 + 1)) > a0_0 then (if a0_1 = true then (if (bt ((rd_T45 t228 x10_4).f3) x11_6) = 49 then (some false) else (signalbenchlaw19_StuffRuns.l2 kj33 t228 (wrap64 (x8_6 + 1)) (bt ((rd_T45 t228 x10_4).f3) x11_6) x10_4 (wrap64 (x11_6 + 1)) a0_0 a0_1)) else (some false)) else (signalbenchlaw19_StuffRuns.l2 kj33 t228 (wrap64 (x8_6 + 1)) (bt ((rd_T45 t228 x10_4).f3) x11_6) x10_4 (wrap64 (x11_6 + 1)) a0_0 a0_1)) = some r := by rw [if_pos rfl] at H; exact H
                     clear H
                     have H := H1
                     clear H1
                     by_cases c37 : (wrap64 (x8_6 + 1)) > a0_0
                     ·rw [if_pos c37] at H
                      have c37b0 : decide (a0_0 < (wrap64 (x8_6 + 1))) = true := decide_eq_true c37
                      clear c37
                      by_cases c38 : a0_1 = true
                      ·subst c38
                       have H1 : (if (bt ((rd_T45 t228 x10_4).f3) x11_6) = 49 then (some false) else (signalbenchlaw19_StuffRuns.l2 kj33 t228 (wrap64 (x8_6 + 1)) (bt ((rd_T45 t228 x10_4).f3) x11_6) x10_4 (wrap64 (x11_6 + 1)) a0_0 true)) = some r := by rw [if_pos rfl] at H; exact H
                       clear H
                       have H := H1
                       clear H1
                       by_cases c39 : (bt ((rd_T45 t228 x10_4).f3) x11_6) = 49
                       ·rw [if_pos c39] at H
                        have c39b0 : ((bt ((rd_T45 t228 x10_4).f3) x11_6) == 49) = true := beq_iff_eq.mpr c39
                        have c39b1 : ((bt ((rd_T45 t228 x10_4).f3) x11_6) != 49) = false := bne_eq_false_iff_eq.mpr c39
                        clear c39
                        obtain rfl := Option.some.inj H
                        have hcz40_0 : wc.cell? ⟨gb223, 0, none⟩ = some (.int .i64 a0_0) := (blk_cell BK223.out 0).trans rfl
                        have hcz40_1 : wc.cell? ⟨gb223, 1, none⟩ = some (.bool true) := (blk_cell BK223.out 1).trans rfl
                        have hfz40_0 := blk_frozen BK223.out 0
                        have hfz40_1 := blk_frozen BK223.out 1
                        go_wp2
                        go_ret
                        exact ⟨by first | rfl | (simp [errW_none, errW_some] <;> rfl) | (simp [*, errW_none, errW_some] <;> rfl), by repeat (first | (with_reducible first | exact HB.out | apply below_alloc | apply pw_below_drewN | apply below_drew1 | refine below_set ?_ GE223.out) | exact HB.out)⟩
                       ·rw [if_neg c39] at H
                        have c39b0 : ((bt ((rd_T45 t228 x10_4).f3) x11_6) == 49) = false := beq_eq_false_iff_ne.mpr c39
                        have c39b1 : ((bt ((rd_T45 t228 x10_4).f3) x11_6) != 49) = true := bne_iff_ne.mpr c39
                        have H' := Aside0.mk H
                        clear H
                        have hcz41_0 : wc.cell? ⟨gb223, 0, none⟩ = some (.int .i64 a0_0) := (blk_cell BK223.out 0).trans rfl
                        have hcz41_1 : wc.cell? ⟨gb223, 1, none⟩ = some (.bool true) := (blk_cell BK223.out 1).trans rfl
                        have hfz41_0 := blk_frozen BK223.out 0
                        have hfz41_1 := blk_frozen BK223.out 1
                        go_wp2
                        go_roundg kj33
                        case measure => have := HJ3.out; have := HK2.out; have := HJ14.out; have := HK4.out; have := HJ23.out; have := HK6.out; have := HJ33.out; omega
                        case rel => exact ⟨(wrap64 (x8_6 + 1)), ((bt ((rd_T45 t228 x10_4).f3) x11_6)), (wrap64 (x11_6 + 1)), (by first | rfl | (simp; done) | (simp [*]; done)), (by first | rfl | (simp; done) | (simp [*]; done)), (by first | rfl | (simp; done) | (simp [*]; done)), H', ⟨by have := HJ3.out; have := HK2.out; have := HJ14.out; have := HK4.out; have := HJ23.out; have := HK6.out; have := HJ33.out; omega⟩, ⟨by (with_reducible repeat (first | apply Kd.R_alloc | apply Kd.R_drewN | apply Kd.R_drew)); exact HO_6.out⟩, ⟨by (with_reducible repeat (first | refine blk_drewN ?_ _ | refine blk_drew ?_ | refine blk_alloc ?_ _)); exact BK223.out⟩, ⟨by repeat (first | (with_reducible first | exact HB.out | apply below_alloc | apply pw_below_drewN | apply below_drew1 | refine below_set ?_ GE223.out) | exact HB.out)⟩⟩
                      ·replace c38 := Bool.eq_false_iff.mpr c38
                       subst c38
                       have H1 : (some false) = some r := by rw [if_neg (show ¬ (false = true) by decide)] at H; exact H
                       clear H
                       have H := H1
                       clear H1
                       obtain rfl := Option.some.inj H
                       have hcz42_0 : wc.cell? ⟨gb223, 0, none⟩ = some (.int .i64 a0_0) := (blk_cell BK223.out 0).trans rfl
                       have hcz42_1 : wc.cell? ⟨gb223, 1, none⟩ = some (.bool false) := (blk_cell BK223.out 1).trans rfl
                       have hfz42_0 := blk_frozen BK223.out 0
                       have hfz42_1 := blk_frozen BK223.out 1
                       go_wp2
                       go_ret
                       exact ⟨by first | rfl | (simp [errW_none, errW_some] <;> rfl) | (simp [*, errW_none, errW_some] <;> rfl), by repeat (first | (with_reducible first | exact HB.out | apply below_alloc | apply pw_below_drewN | apply below_drew1 | refine below_set ?_ GE223.out) | exact HB.out)⟩
                     ·rw [if_neg c37] at H
                      have c37b0 : decide (a0_0 < (wrap64 (x8_6 + 1))) = false := decide_eq_false c37
                      clear c37
                      have H' := Aside0.mk H
                      clear H
                      have hcz43_0 : wc.cell? ⟨gb223, 0, none⟩ = some (.int .i64 a0_0) := (blk_cell BK223.out 0).trans rfl
                      have hcz43_1 : wc.cell? ⟨gb223, 1, none⟩ = some (.bool a0_1) := (blk_cell BK223.out 1).trans rfl
                      have hfz43_0 := blk_frozen BK223.out 0
                      have hfz43_1 := blk_frozen BK223.out 1
                      go_wp2
                      go_roundg kj33
                      case measure => have := HJ3.out; have := HK2.out; have := HJ14.out; have := HK4.out; have := HJ23.out; have := HK6.out; have := HJ33.out; omega
                      case rel => exact ⟨(wrap64 (x8_6 + 1)), ((bt ((rd_T45 t228 x10_4).f3) x11_6)), (wrap64 (x11_6 + 1)), (by first | rfl | (simp; done) | (simp [*]; done)), (by first | rfl | (simp; done) | (simp [*]; done)), (by first | rfl | (simp; done) | (simp [*]; done)), H', ⟨by have := HJ3.out; have := HK2.out; have := HJ14.out; have := HK4.out; have := HJ23.out; have := HK6.out; have := HJ33.out; omega⟩, ⟨by (with_reducible repeat (first | apply Kd.R_alloc | apply Kd.R_drewN | apply Kd.R_drew)); exact HO_6.out⟩, ⟨by (with_reducible repeat (first | refine blk_drewN ?_ _ | refine blk_drew ?_ | refine blk_alloc ?_ _)); exact BK223.out⟩, ⟨by repeat (first | (with_reducible first | exact HB.out | apply below_alloc | apply pw_below_drewN | apply below_drew1 | refine below_set ?_ GE223.out) | exact HB.out)⟩⟩
                    ·replace c36 := Bool.eq_false_iff.mpr c36
                     subst c36
                     have H1 : (if 1 > a0_0 then (if a0_1 = true then (if (bt ((rd_T45 t228 x10_4).f3) x11_6) = 49 then (some false) else (signalbenchlaw19_StuffRuns.l2 kj33 t228 1 (bt ((rd_T45 t228 x10_4).f3) x11_6) x10_4 (wrap64 (x11_6 + 1)) a0_0 a0_1)) else (some false)) else (signalbenchlaw19_StuffRuns.l2 kj33 t228 1 (bt ((rd_T45 t228 x10_4).f3) x11_6) x10_4 (wrap64 (x11_6 + 1)) a0_0 a0_1)) = some r := by rw [if_neg (show ¬ (false = true) by decide)] at H; exact H
                     clear H
                     have H := H1
                     clear H1
                     by_cases c44 : 1 > a0_0
                     ·rw [if_pos c44] at H
                      have c44b0 : decide (a0_0 < 1) = true := decide_eq_true c44
                      clear c44
                      by_cases c45 : a0_1 = true
                      ·subst c45
                       have H1 : (if (bt ((rd_T45 t228 x10_4).f3) x11_6) = 49 then (some false) else (signalbenchlaw19_StuffRuns.l2 kj33 t228 1 (bt ((rd_T45 t228 x10_4).f3) x11_6) x10_4 (wrap64 (x11_6 + 1)) a0_0 true)) = some r := by rw [if_pos rfl] at H; exact H
                       clear H
                       have H := H1
                       clear H1
                       by_cases c46 : (bt ((rd_T45 t228 x10_4).f3) x11_6) = 49
                       ·rw [if_pos c46] at H
                        have c46b0 : ((bt ((rd_T45 t228 x10_4).f3) x11_6) == 49) = true := beq_iff_eq.mpr c46
                        have c46b1 : ((bt ((rd_T45 t228 x10_4).f3) x11_6) != 49) = false := bne_eq_false_iff_eq.mpr c46
                        clear c46
                        obtain rfl := Option.some.inj H
                        have hcz47_0 : wc.cell? ⟨gb223, 0, none⟩ = some (.int .i64 a0_0) := (blk_cell BK223.out 0).trans rfl
                        have hcz47_1 : wc.cell? ⟨gb223, 1, none⟩ = some (.bool true) := (blk_cell BK223.out 1).trans rfl
                        have hfz47_0 := blk_frozen BK223.out 0
                        have hfz47_1 := blk_frozen BK223.out 1
                        go_wp2
                        go_ret
                        exact ⟨by first | rfl | (simp [errW_none, errW_some] <;> rfl) | (simp [*, errW_none, errW_some] <;> rfl), by repeat (first | (with_reducible first | exact HB.out | apply below_alloc | apply pw_below_drewN | apply below_drew1 | refine below_set ?_ GE223.out) | exact HB.out)⟩
                       ·rw [if_neg c46] at H
                        have c46b0 : ((bt ((rd_T45 t228 x10_4).f3) x11_6) == 49) = false := beq_eq_false_iff_ne.mpr c46
                        have c46b1 : ((bt ((rd_T45 t228 x10_4).f3) x11_6) != 49) = true := bne_iff_ne.mpr c46
                        have H' := Aside0.mk H
                        clear H
                        have hcz48_0 : wc.cell? ⟨gb223, 0, none⟩ = some (.int .i64 a0_0) := (blk_cell BK223.out 0).trans rfl
                        have hcz48_1 : wc.cell? ⟨gb223, 1, none⟩ = some (.bool true) := (blk_cell BK223.out 1).trans rfl
                        have hfz48_0 := blk_frozen BK223.out 0
                        have hfz48_1 := blk_frozen BK223.out 1
                        go_wp2
                        go_roundg kj33
                        case measure => have := HJ3.out; have := HK2.out; have := HJ14.out; have := HK4.out; have := HJ23.out; have := HK6.out; have := HJ33.out; omega
                        case rel => exact ⟨(1), ((bt ((rd_T45 t228 x10_4).f3) x11_6)), (wrap64 (x11_6 + 1)), (by first | rfl | (simp; done) | (simp [*]; done)), (by first | rfl | (simp; done) | (simp [*]; done)), (by first | rfl | (simp; done) | (simp [*]; done)), H', ⟨by have := HJ3.out; have := HK2.out; have := HJ14.out; have := HK4.out; have := HJ23.out; have := HK6.out; have := HJ33.out; omega⟩, ⟨by (with_reducible repeat (first | apply Kd.R_alloc | apply Kd.R_drewN | apply Kd.R_drew)); exact HO_6.out⟩, ⟨by (with_reducible repeat (first | refine blk_drewN ?_ _ | refine blk_drew ?_ | refine blk_alloc ?_ _)); exact BK223.out⟩, ⟨by repeat (first | (with_reducible first | exact HB.out | apply below_alloc | apply pw_below_drewN | apply below_drew1 | refine below_set ?_ GE223.out) | exact HB.out)⟩⟩
                      ·replace c45 := Bool.eq_false_iff.mpr c45
                       subst c45
                       have H1 : (some false) = some r := by rw [if_neg (show ¬ (false = true) by decide)] at H; exact H
                       clear H
                       have H := H1
                       clear H1
                       obtain rfl := Option.some.inj H
                       have hcz49_0 : wc.cell? ⟨gb223, 0, none⟩ = some (.int .i64 a0_0) := (blk_cell BK223.out 0).trans rfl
                       have hcz49_1 : wc.cell? ⟨gb223, 1, none⟩ = some (.bool false) := (blk_cell BK223.out 1).trans rfl
                       have hfz49_0 := blk_frozen BK223.out 0
                       have hfz49_1 := blk_frozen BK223.out 1
                       go_wp2
                       go_ret
                       exact ⟨by first | rfl | (simp [errW_none, errW_some] <;> rfl) | (simp [*, errW_none, errW_some] <;> rfl), by repeat (first | (with_reducible first | exact HB.out | apply below_alloc | apply pw_below_drewN | apply below_drew1 | refine below_set ?_ GE223.out) | exact HB.out)⟩
                     ·rw [if_neg c44] at H
                      have c44b0 : decide (a0_0 < 1) = false := decide_eq_false c44
                      clear c44
                      have H' := Aside0.mk H
                      clear H
                      have hcz50_0 : wc.cell? ⟨gb223, 0, none⟩ = some (.int .i64 a0_0) := (blk_cell BK223.out 0).trans rfl
                      have hcz50_1 : wc.cell? ⟨gb223, 1, none⟩ = some (.bool a0_1) := (blk_cell BK223.out 1).trans rfl
                      have hfz50_0 := blk_frozen BK223.out 0
                      have hfz50_1 := blk_frozen BK223.out 1
                      go_wp2
                      go_roundg kj33
                      case measure => have := HJ3.out; have := HK2.out; have := HJ14.out; have := HK4.out; have := HJ23.out; have := HK6.out; have := HJ33.out; omega
                      case rel => exact ⟨(1), ((bt ((rd_T45 t228 x10_4).f3) x11_6)), (wrap64 (x11_6 + 1)), (by first | rfl | (simp; done) | (simp [*]; done)), (by first | rfl | (simp; done) | (simp [*]; done)), (by first | rfl | (simp; done) | (simp [*]; done)), H', ⟨by have := HJ3.out; have := HK2.out; have := HJ14.out; have := HK4.out; have := HJ23.out; have := HK6.out; have := HJ33.out; omega⟩, ⟨by (with_reducible repeat (first | apply Kd.R_alloc | apply Kd.R_drewN | apply Kd.R_drew)); exact HO_6.out⟩, ⟨by (with_reducible repeat (first | refine blk_drewN ?_ _ | refine blk_drew ?_ | refine blk_alloc ?_ _)); exact BK223.out⟩, ⟨by repeat (first | (with_reducible first | exact HB.out | apply below_alloc | apply pw_below_drewN | apply below_drew1 | refine below_set ?_ GE223.out) | exact HB.out)⟩⟩
                 ·rw [if_neg c32] at H
                  exact absurd H (by simp)
                ·rw [if_neg c31] at H
                 have c31b0 : decide (x11_6 < (((rd_T45 t228 x10_4).f3).size : Int)) = false := decide_eq_false c31
                 clear c31
                 have H' := Aside0.mk H
                 clear H
                 have p234 : 0 ≤ (x10_4 : Int) := of_decide_eq_true (by first | (with_reducible assumption) | assumption)
                 have q234 : x10_4 < (t228.length : Int) := of_decide_eq_true (by first | (with_reducible assumption) | assumption)
                 obtain ⟨ad234, e234, hx234_0, hx234_1, hx234_2, hx234_3, hx234_4⟩ := at_T45 (Kd.R_reads' HO_6.out).2.2 x10_4 p234 q234
                 cases e234
                 replace p234 := eq_true p234
                 replace q234 := eq_true q234
                 go_wp2
                 go_roundg k6
                 case measure => have := HJ3.out; have := HK2.out; have := HJ14.out; have := HK4.out; have := HJ23.out; have := HK6.out; omega
                 case rel => exact ⟨(x8_6), (x9_6), (wrap64 (x10_4 + 1)), (by first | rfl | (simp; done) | (simp [*]; done)), (by first | rfl | (simp; done) | (simp [*]; done)), (by first | rfl | (simp; done) | (simp [*]; done)), H', ⟨by have := HJ3.out; have := HK2.out; have := HJ14.out; have := HK4.out; have := HJ23.out; have := HK6.out; omega⟩, ⟨by (with_reducible repeat (first | apply Kd.R_alloc | apply Kd.R_drewN | apply Kd.R_drew)); exact HO_6.out⟩, ⟨by (with_reducible repeat (first | refine blk_drewN ?_ _ | refine blk_drew ?_ | refine blk_alloc ?_ _)); exact BK223.out⟩, ⟨by repeat (first | (with_reducible first | exact HB.out | apply below_alloc | apply pw_below_drewN | apply below_drew1 | refine below_set ?_ GE223.out) | exact HB.out)⟩⟩
               ·rw [if_neg c30] at H
                exact absurd H (by simp)
              ·rw [if_neg c29] at H
               exact absurd H (by simp)

/-- THE ONE PURE STATEMENT of signalbenchlaw19_StuffRuns: yours. -/
def signalbenchlaw19_StuffRuns.Pure : Prop := ∀ (a0_0 : Int) (a0_1 : Bool) (l1 : List (S45)), (Lit.int .i64 a0_0).wf = true → l1.length ≤ maxLen → l1.length * 48 ≤ 140737488351232 → (∀ x ∈ l1, (Lit.int .i64 x.f0).wf = true ∧ (Lit.int .i64 x.f1).wf = true ∧ (Lit.int .i64 x.f2).wf = true ∧ x.f3.size ≤ 140737488351232 ∧ (Lit.int .i64 x.f4).wf = true) → ∃ k, signalbenchlaw19_StuffRuns.f k a0_0 a0_1 l1 = some true
theorem signalbenchlaw19_StuffRuns.walk (P : signalbenchlaw19_StuffRuns.Pure) (a0_0 : Int) (a0_1 : Bool) (A1 : Option Addr) (c1 : Nat) (l1 : List (S45)) (w : World) (hr1 : Kd.C k45 w A1 l1.length l1) (hc1 : l1.length ≤ c1) (w0_ : (Lit.int .i64 a0_0).wf = true) (w1_ : l1.length ≤ maxLen) (w2_ : l1.length * 48 ≤ 140737488351232) (w3_ : (∀ x ∈ l1, (Lit.int .i64 x.f0).wf = true ∧ (Lit.int .i64 x.f1).wf = true ∧ (Lit.int .i64 x.f2).wf = true ∧ x.f3.size ≤ 140737488351232 ∧ (Lit.int .i64 x.f4).wf = true)) :
  Calls Try.prog 7 #[.agg #[.int .i64 a0_0, .bool a0_1], .slice A1 l1.length c1] w fun e w' => e = .returned (.bool true) ∧ Below w.heap.size w w' := by
 obtain ⟨k, h⟩ := P a0_0 a0_1 l1 w0_ w1_ w2_ w3_
 refine (signalbenchlaw19_StuffRuns.calls k a0_0 a0_1 A1 c1 l1 true w hr1 hc1 h).mono ?_
 rintro e w' ⟨rfl, hd⟩
 exact ⟨rfl, hd⟩

end Go.Proofs.Ytpgeomgaphodkaa.PStuffRuns
