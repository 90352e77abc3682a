-- Written by a program of this session (wip/tools/pr.py), which calls the kit's print with changes of its own.
import Derived.Test.YtpgeomgaphodkaaPStuffEncodesx0
import Derived.Test.YtpgeomgaphodkaaPStuffEncodesx2
import Derived.Test.YtpgeomgaphodkaaPStuffEncodesx6
import Derived.Test.YtpgeomgaphodkaaPStuffEncodesx8
import Derived.Test.YtpgeomgaphodkaaPStuffEncodesx9
import Derived.Test.YtpgeomgaphodkaaPStuffEncodesx11
namespace Go.Proofs.Ytpgeomgaphodkaa.PStuffEncodes
open Go.RowKit Go.Proofs.YtpgeomgaphodkaaW.PrintWords Go.Proofs.YtpgeomgaphodkaaW.PrintLast Go.Proofs.YtpgeomgaphodkaaW.PrintMore
attribute [local go_sem] max2_int min2_int max_two min_two max_three min_three max_four min_four   -- for this text's walks alone
set_option linter.unusedVariables false
set_option linter.unusedSimpArgs false

attribute [local go_sem high] eqA45
/-! ### signalbenchlaw19_StuffEncodes: function 4 -/
mutual
def signalbenchlaw19_StuffEncodes.j0 : Nat → List (S45) → Int → Bool → Option (Bool)
 | 0, _, _, _ => none
 | k + 1, x1, x260000, x260001 => (stuff_Encode.f k x260000 x260001 x1).bind fun bt262 => ((signalbenchref19_Encode.f k x260000 x260001 x1).bind fun bt266 => (if bt262.2 = bt266.2 then (signalbenchlaw19_StuffEncodes.j1 k bt262.1 bt266.1 ((bt262.1.length : Int) != (bt266.1.length : Int))) else (signalbenchlaw19_StuffEncodes.j1 k bt262.1 bt266.1 true)))
def signalbenchlaw19_StuffEncodes.j1 : Nat → List (S45) → List (S45) → Bool → Option (Bool)
 | 0, _, _, _ => none
 | k + 1, x5, x7, x35 => if x35 = true then (some false) else (signalbenchlaw19_StuffEncodes.j2 k x5 x7)
def signalbenchlaw19_StuffEncodes.j2 : Nat → List (S45) → List (S45) → Option (Bool)
 | 0, _, _ => none
 | k + 1, x5, x7 => signalbenchlaw19_StuffEncodes.l0 k x5 x7 0
def signalbenchlaw19_StuffEncodes.l0 : Nat → List (S45) → List (S45) → Int → Option (Bool)
 | 0, _, _, _ => none
 | k + 1, x5, x7, x9 => if x9 < (x7.length : Int) then (if 0 ≤ x9 then (if x9 < (x5.length : Int) then (if (!(((rd_T45 x5 x9).f0) == ((rd_T45 x7 x9).f0)) || (!(((rd_T45 x5 x9).f1) == ((rd_T45 x7 x9).f1)) || (!(((rd_T45 x5 x9).f2) == ((rd_T45 x7 x9).f2)) || (!((((rd_T45 x5 x9).f3).toList) == (((rd_T45 x7 x9).f3).toList)) || (!(((rd_T45 x5 x9).f4) == ((rd_T45 x7 x9).f4))))))) = true then (some false) else (signalbenchlaw19_StuffEncodes.l0 k x5 x7 (wrap64 (x9 + 1)))) else (none)) else (none)) else ((signalbenchlaw19_awake.f k).bind fun t272 => (some t272))
end
def signalbenchlaw19_StuffEncodes.f (k : Nat) (a0_0 : Int) (a0_1 : Bool) (l1 : List (S45)) : Option (Bool) := (signalbenchlaw19_tiny.f k l1).bind fun t260 => (if t260 = true then (signalbenchlaw19_StuffEncodes.j0 k l1 a0_0 a0_1) else ((signalbenchlaw19_awake.f k).bind fun t261 => (some t261)))
theorem signalbenchlaw19_StuffEncodes.mono_l : ∀ k, (∀ y0 y1 y2, LeO (signalbenchlaw19_StuffEncodes.j0 k y0 y1 y2) (signalbenchlaw19_StuffEncodes.j0 (k + 1) y0 y1 y2)) ∧ (∀ y0 y1 y2, LeO (signalbenchlaw19_StuffEncodes.j1 k y0 y1 y2) (signalbenchlaw19_StuffEncodes.j1 (k + 1) y0 y1 y2)) ∧ (∀ y0 y1, LeO (signalbenchlaw19_StuffEncodes.j2 k y0 y1) (signalbenchlaw19_StuffEncodes.j2 (k + 1) y0 y1)) ∧ (∀ y0 y1 y2, LeO (signalbenchlaw19_StuffEncodes.l0 k y0 y1 y2) (signalbenchlaw19_StuffEncodes.l0 (k + 1) y0 y1 y2))
 | 0 => ⟨fun _ _ _ r h => by simp [signalbenchlaw19_StuffEncodes.j0] at h, fun _ _ _ r h => by simp [signalbenchlaw19_StuffEncodes.j1] at h, fun _ _ r h => by simp [signalbenchlaw19_StuffEncodes.j2] at h, fun _ _ _ r h => by simp [signalbenchlaw19_StuffEncodes.l0] at h⟩
 | k + 1 => by
  obtain ⟨ih0, ih1, ih2, ih3⟩ := signalbenchlaw19_StuffEncodes.mono_l k
  refine ⟨?_, ?_, ?_, ?_⟩
  ·intro y0 y1 y2
   unfold signalbenchlaw19_StuffEncodes.j0
   repeat' first
   | (with_reducible exact ih0 _ _ _)
   | (with_reducible exact ih1 _ _ _)
   | (with_reducible exact ih2 _ _)
   | (with_reducible exact ih3 _ _ _)
   | (with_reducible exact signalbenchlaw19_awake.mono _)
   | (with_reducible exact signalbenchlaw19_tiny.mono _ _)
   | (with_reducible exact signalbenchref19_Encode.mono _ _ _ _)
   | (with_reducible exact stuff_Encode.mono _ _ _ _)
   | (with_reducible exact LeO.refl _)
   | (with_reducible exact LeO.none _)
   | (with_reducible refine LeO.ite ?_ ?_)
   | (with_reducible refine LeO.bind ?_ (fun _ => ?_))
   | exact ih0 _ _ _
   | exact ih1 _ _ _
   | exact ih2 _ _
   | exact ih3 _ _ _
   | exact signalbenchlaw19_awake.mono _
   | exact signalbenchlaw19_tiny.mono _ _
   | exact signalbenchref19_Encode.mono _ _ _ _
   | exact stuff_Encode.mono _ _ _ _
   | exact LeO.none _
   | refine LeO.ite ?_ ?_
   | refine LeO.bind ?_ (fun _ => ?_)
  ·intro y0 y1 y2
   unfold signalbenchlaw19_StuffEncodes.j1
   repeat' first
   | (with_reducible exact ih0 _ _ _)
   | (with_reducible exact ih1 _ _ _)
   | (with_reducible exact ih2 _ _)
   | (with_reducible exact ih3 _ _ _)
   | (with_reducible exact signalbenchlaw19_awake.mono _)
   | (with_reducible exact signalbenchlaw19_tiny.mono _ _)
   | (with_reducible exact signalbenchref19_Encode.mono _ _ _ _)
   | (with_reducible exact stuff_Encode.mono _ _ _ _)
   | (with_reducible exact LeO.refl _)
   | (with_reducible exact LeO.none _)
   | (with_reducible refine LeO.ite ?_ ?_)
   | (with_reducible refine LeO.bind ?_ (fun _ => ?_))
   | exact ih0 _ _ _
   | exact ih1 _ _ _
   | exact ih2 _ _
   | exact ih3 _ _ _
   | exact signalbenchlaw19_awake.mono _
   | exact signalbenchlaw19_tiny.mono _ _
   | exact signalbenchref19_Encode.mono _ _ _ _
   | exact stuff_Encode.mono _ _ _ _
   | exact LeO.none _
   | refine LeO.ite ?_ ?_
   | refine LeO.bind ?_ (fun _ => ?_)
  ·intro y0 y1
   unfold signalbenchlaw19_StuffEncodes.j2
   repeat' first
   | (with_reducible exact ih0 _ _ _)
   | (with_reducible exact ih1 _ _ _)
   | (with_reducible exact ih2 _ _)
   | (with_reducible exact ih3 _ _ _)
   | (with_reducible exact signalbenchlaw19_awake.mono _)
   | (with_reducible exact signalbenchlaw19_tiny.mono _ _)
   | (with_reducible exact signalbenchref19_Encode.mono _ _ _ _)
   | (with_reducible exact stuff_Encode.mono _ _ _ _)
   | (with_reducible exact LeO.refl _)
   | (with_reducible exact LeO.none _)
   | (with_reducible refine LeO.ite ?_ ?_)
   | (with_reducible refine LeO.bind ?_ (fun _ => ?_))
   | exact ih0 _ _ _
   | exact ih1 _ _ _
   | exact ih2 _ _
   | exact ih3 _ _ _
   | exact signalbenchlaw19_awake.mono _
   | exact signalbenchlaw19_tiny.mono _ _
   | exact signalbenchref19_Encode.mono _ _ _ _
   | exact stuff_Encode.mono _ _ _ _
   | exact LeO.none _
   | refine LeO.ite ?_ ?_
   | refine LeO.bind ?_ (fun _ => ?_)
  ·intro y0 y1 y2
   unfold signalbenchlaw19_StuffEncodes.l0
   repeat' first
   | (with_reducible exact ih0 _ _ _)
   | (with_reducible exact ih1 _ _ _)
   | (with_reducible exact ih2 _ _)
   | (with_reducible exact ih3 _ _ _)
   | (with_reducible exact signalbenchlaw19_awake.mono _)
   | (with_reducible exact signalbenchlaw19_tiny.mono _ _)
   | (with_reducible exact signalbenchref19_Encode.mono _ _ _ _)
   | (with_reducible exact stuff_Encode.mono _ _ _ _)
   | (with_reducible exact LeO.refl _)
   | (with_reducible exact LeO.none _)
   | (with_reducible refine LeO.ite ?_ ?_)
   | (with_reducible refine LeO.bind ?_ (fun _ => ?_))
   | exact ih0 _ _ _
   | exact ih1 _ _ _
   | exact ih2 _ _
   | exact ih3 _ _ _
   | exact signalbenchlaw19_awake.mono _
   | exact signalbenchlaw19_tiny.mono _ _
   | exact signalbenchref19_Encode.mono _ _ _ _
   | exact stuff_Encode.mono _ _ _ _
   | exact LeO.none _
   | refine LeO.ite ?_ ?_
   | refine LeO.bind ?_ (fun _ => ?_)
theorem signalbenchlaw19_StuffEncodes.mono : ∀ a0 a1 a2 k, LeO (signalbenchlaw19_StuffEncodes.f k a0 a1 a2) (signalbenchlaw19_StuffEncodes.f (k + 1) a0 a1 a2) := by
 intro a0 a1 a2 k
 obtain ⟨ih0, ih1, ih2, ih3⟩ := signalbenchlaw19_StuffEncodes.mono_l k
 unfold signalbenchlaw19_StuffEncodes.f
 repeat' first
   | (with_reducible exact ih0 _ _ _)
   | (with_reducible exact ih1 _ _ _)
   | (with_reducible exact ih2 _ _)
   | (with_reducible exact ih3 _ _ _)
   | (with_reducible exact signalbenchlaw19_awake.mono _)
   | (with_reducible exact signalbenchlaw19_tiny.mono _ _)
   | (with_reducible exact signalbenchref19_Encode.mono _ _ _ _)
   | (with_reducible exact stuff_Encode.mono _ _ _ _)
   | (with_reducible exact LeO.refl _)
   | (with_reducible exact LeO.none _)
   | (with_reducible refine LeO.ite ?_ ?_)
   | (with_reducible refine LeO.bind ?_ (fun _ => ?_))
   | exact ih0 _ _ _
   | exact ih1 _ _ _
   | exact ih2 _ _
   | exact ih3 _ _ _
   | exact signalbenchlaw19_awake.mono _
   | exact signalbenchlaw19_tiny.mono _ _
   | exact signalbenchref19_Encode.mono _ _ _ _
   | exact stuff_Encode.mono _ _ _ _
   | exact LeO.none _
   | refine LeO.ite ?_ ?_
   | refine LeO.bind ?_ (fun _ => ?_)
set_option maxHeartbeats 8000000 in
set_option maxRecDepth 100000 in
theorem signalbenchlaw19_StuffEncodes.calls (k : Nat) (a0_0 : Int) (a0_1 : Bool) (A1 : Option Addr) (c1 : Nat) (l1 : List (S45)) (r : Bool) (w : World) (hr1 : Kd.C k45 w A1 l1.length l1) (hc1 : l1.length ≤ c1) (h : signalbenchlaw19_StuffEncodes.f k a0_0 a0_1 l1 = some r) :
  Calls Try.prog 4 #[.agg #[.int .i64 a0_0, .bool a0_1], .slice A1 l1.length c1] w fun e w' => e = .returned (.bool r) ∧ Below w.heap.size w w' := by
 have hu23 := Try.underlying23
 have hu45 := Try.underlying45
 have HR1 := Aside0.mk hr1
 have HC1 := Aside0.mk hc1
 clear hr1 hc1
 have HB := Aside0.mk (Below.refl w.heap.size w)
 have H : ((signalbenchlaw19_tiny.f k l1).bind fun t260 => (if t260 = true then (signalbenchlaw19_StuffEncodes.j0 k l1 a0_0 a0_1) else ((signalbenchlaw19_awake.f k).bind fun t261 => (some t261)))) = some r := h
 clear h
 replace H := Option.bind_eq_some_iff.mp H
 obtain ⟨t260, A30, H⟩ := H
 replace H : (if t260 = true then (signalbenchlaw19_StuffEncodes.j0 k l1 a0_0 a0_1) else ((signalbenchlaw19_awake.f k).bind fun t261 => (some t261))) = some r := H
 have A3 := Aside0.mk A30
 clear A30
 have HC4 := Aside0.mk H
 clear H
 go_enter Try.func4, Try.ntmps4
 go_upto_if 12 with (first | ((with_reducible refine gate_dst (N := 2) rfl ?_); (try (refine gate_guard (by first | rfl | (go_simp; done)) ?_; dsimp only)); refine box_event ?hg (N := 2) ?hd (cs := #[.int .i64 a0_0, .bool a0_1]) (t := 23) ?hr ?_; (case hd => rfl); (case hg => rfl); (case hr => first | (go_simp; done) | (go_simp; rfl)); intro gb259 hg w5 hbox hb; have n0_ := Aside0.mk (below_step (hbw HB.out) hb); have n1_ := Aside0.mk (hbox); have n2_ := Aside0.mk ((by rw [hg]; exact (below_size (hbw HB.out)) : w.heap.size ≤ gb259)); have n3_ := Aside0.mk ((by rw [hg]; exact (below_size (hbw HB.out)) : w.heap.size ≤ gb259)); clear HB; have HB := n0_; have BK259 := n1_; have GW259 := n2_; have GE259 := n3_; clear n0_ n1_ n2_ n3_; clear hb hbox hg) | (go_at_call 20; (with_reducible refine (signalbenchlaw19_tiny.calls k _ _ l1 t260 _ ?side1 ?side2 A3.out).mono ?_); (case side1 => repeat (first | exact (Kd.C_below HR1.out HB.out) | (with_reducible refine Kd.C_alloc ?_ _) | (with_reducible refine Kd.C_drewN ?_ _) | (with_reducible refine Kd.C_drew ?_))); (case side2 => exact HC1.out); rintro e w' ⟨rfl, ⟨nd, rfl⟩⟩; (try first | exact ⟨rfl, _, World.drewN_drewN _ _ _⟩ | exact ⟨rfl, _, Eq.trans (World.drewN_drewN _ _ _) (congrArg (World.drewN _) (Nat.add_assoc _ _ _))⟩)))
 repeat (go_quiet (first | ((with_reducible refine gate_dst (N := 2) rfl ?_); (try (refine gate_guard (by first | rfl | (go_simp; done)) ?_; dsimp only)); refine box_event ?hg (N := 2) ?hd (cs := #[.int .i64 a0_0, .bool a0_1]) (t := 23) ?hr ?_; (case hd => rfl); (case hg => rfl); (case hr => first | (go_simp; done) | (go_simp; rfl)); intro gb259 hg w5 hbox hb; have n0_ := Aside0.mk (below_step (hbw HB.out) hb); have n1_ := Aside0.mk (hbox); have n2_ := Aside0.mk ((by rw [hg]; exact (below_size (hbw HB.out)) : w.heap.size ≤ gb259)); have n3_ := Aside0.mk ((by rw [hg]; exact (below_size (hbw HB.out)) : w.heap.size ≤ gb259)); clear HB; have HB := n0_; have BK259 := n1_; have GW259 := n2_; have GE259 := n3_; clear n0_ n1_ n2_ n3_; clear hb hbox hg) | (go_at_call 20; (with_reducible refine (signalbenchlaw19_tiny.calls k _ _ l1 t260 _ ?side1 ?side2 A3.out).mono ?_); (case side1 => repeat (first | exact (Kd.C_below HR1.out HB.out) | (with_reducible refine Kd.C_alloc ?_ _) | (with_reducible refine Kd.C_drewN ?_ _) | (with_reducible refine Kd.C_drew ?_))); (case side2 => exact HC1.out); rintro e w' ⟨rfl, ⟨nd, rfl⟩⟩; (try first | exact ⟨rfl, _, World.drewN_drewN _ _ _⟩ | exact ⟨rfl, _, Eq.trans (World.drewN_drewN _ _ _) (congrArg (World.drewN _) (Nat.add_assoc _ _ _))⟩))); go_upto_if 12 with (first | ((with_reducible refine gate_dst (N := 2) rfl ?_); (try (refine gate_guard (by first | rfl | (go_simp; done)) ?_; dsimp only)); refine box_event ?hg (N := 2) ?hd (cs := #[.int .i64 a0_0, .bool a0_1]) (t := 23) ?hr ?_; (case hd => rfl); (case hg => rfl); (case hr => first | (go_simp; done) | (go_simp; rfl)); intro gb259 hg w5 hbox hb; have n0_ := Aside0.mk (below_step (hbw HB.out) hb); have n1_ := Aside0.mk (hbox); have n2_ := Aside0.mk ((by rw [hg]; exact (below_size (hbw HB.out)) : w.heap.size ≤ gb259)); have n3_ := Aside0.mk ((by rw [hg]; exact (below_size (hbw HB.out)) : w.heap.size ≤ gb259)); clear HB; have HB := n0_; have BK259 := n1_; have GW259 := n2_; have GE259 := n3_; clear n0_ n1_ n2_ n3_; clear hb hbox hg) | (go_at_call 20; (with_reducible refine (signalbenchlaw19_tiny.calls k _ _ l1 t260 _ ?side1 ?side2 A3.out).mono ?_); (case side1 => repeat (first | exact (Kd.C_below HR1.out HB.out) | (with_reducible refine Kd.C_alloc ?_ _) | (with_reducible refine Kd.C_drewN ?_ _) | (with_reducible refine Kd.C_drew ?_))); (case side2 => exact HC1.out); rintro e w' ⟨rfl, ⟨nd, rfl⟩⟩; (try first | exact ⟨rfl, _, World.drewN_drewN _ _ _⟩ | exact ⟨rfl, _, Eq.trans (World.drewN_drewN _ _ _) (congrArg (World.drewN _) (Nat.add_assoc _ _ _))⟩))))
 (try simp only [Act.put, List.setIfInBounds_toArray, List.set_cons_zero, List.set_cons_succ])
 go_cut [] (fun wc => ∃ (kq : Nat), Aside0 (signalbenchlaw19_StuffEncodes.j0 kq l1 a0_0 a0_1 = some r) ∧ Aside0 (kq ≤ k) ∧ Aside0 (wc.heap[gb259]? = some (.cells #[.int .i64 a0_0, .bool a0_1] 23 (0, 0))) ∧ Aside0 (Below w.heap.size w wc))
 case first =>
  have H := HC4.out
  clear HC4
  by_cases c6 : t260 = true
  ·subst c6
   have H1 : (signalbenchlaw19_StuffEncodes.j0 k l1 a0_0 a0_1) = some r := by rw [if_pos rfl] at H; exact H
   clear H
   have H := H1
   clear H1
   have H' := Aside0.mk H
   clear H
   go_wp2
   repeat (go_quiet (fail); try go_wp2)
   go_meet
   case rel => exact ⟨_, H', ⟨by first | omega | exact Nat.le_refl _⟩, ⟨by (with_reducible repeat (first | refine blk_drewN ?_ _ | refine blk_drew ?_ | refine blk_alloc ?_ _)); exact BK259.out⟩, ⟨by repeat (first | (with_reducible first | exact HB.out | apply below_alloc | apply pw_below_drewN | apply below_drew1 | refine below_set ?_ GE259.out) | exact HB.out)⟩⟩
  ·replace c6 := Bool.eq_false_iff.mpr c6
   subst c6
   have H1 : ((signalbenchlaw19_awake.f k).bind fun t261 => (some t261)) = some r := by rw [if_neg (show ¬ (false = true) by decide)] at H; exact H
   clear H
   have H := H1
   clear H1
   replace H := Option.bind_eq_some_iff.mp H
   obtain ⟨t261, A70, H⟩ := H
   replace H : (some t261) = some r := H
   have A7 := Aside0.mk A70
   clear A70
   obtain rfl := Option.some.inj H
   go_wp2_with (first | (go_at_call 9; (with_reducible refine (signalbenchlaw19_awake.calls k  t261 _ A7.out).mono ?_); rintro e w8 ⟨rfl, hb⟩; have n0_ := Aside0.mk (blkb BK259.out hb); have n1_ := Aside0.mk (below_step (hbw HB.out) hb); clear BK259; clear HB; have BK259 := n0_; have HB := n1_; clear n0_ n1_; (try clear hb); (try clear hb2); (try clear hk); (try clear hi)))
   repeat (go_quiet (first | (go_at_call 9; (with_reducible refine (signalbenchlaw19_awake.calls k  t261 _ A7.out).mono ?_); rintro e w8 ⟨rfl, hb⟩; have n0_ := Aside0.mk (blkb BK259.out hb); have n1_ := Aside0.mk (below_step (hbw HB.out) hb); clear BK259; clear HB; have BK259 := n0_; have HB := n1_; clear n0_ n1_; (try clear hb); (try clear hb2); (try clear hk); (try clear hi))); try go_wp2_with (first | (go_at_call 9; (with_reducible refine (signalbenchlaw19_awake.calls k  t261 _ A7.out).mono ?_); rintro e w8 ⟨rfl, hb⟩; have n0_ := Aside0.mk (blkb BK259.out hb); have n1_ := Aside0.mk (below_step (hbw HB.out) hb); clear BK259; clear HB; have BK259 := n0_; have HB := n1_; clear n0_ n1_; (try clear hb); (try clear hb2); (try clear hk); (try clear hi))))
   go_ret
   exact ⟨by first | rfl | (simp [errW_none, errW_some] <;> rfl) | (simp [*, errW_none, errW_some] <;> rfl), by repeat (first | (with_reducible first | exact HB.out | apply below_alloc | apply pw_below_drewN | apply below_drew1 | refine below_set ?_ GE259.out) | exact HB.out)⟩
 case rest =>
  clear HC4
  try clear c1
  try clear p2
  try clear c4
  try clear c6
  obtain ⟨kq, HA, HJ3, BK259, HB⟩ := hcut
  cases kq with
  | zero => exact absurd HA.out (by simp [signalbenchlaw19_StuffEncodes.j0])
  | succ kj3 =>
   have H := HA.out
   clear HA
   simp only [signalbenchlaw19_StuffEncodes.j0] at H
   replace H := Option.bind_eq_some_iff.mp H
   obtain ⟨⟨t262, t265⟩, A90, H⟩ := H
   replace H : ((signalbenchref19_Encode.f kj3 a0_0 a0_1 l1).bind fun bt266 => (if t265 = bt266.2 then (signalbenchlaw19_StuffEncodes.j1 kj3 t262 bt266.1 ((t262.length : Int) != (bt266.1.length : Int))) else (signalbenchlaw19_StuffEncodes.j1 kj3 t262 bt266.1 true))) = some r := H
   have A9 := Aside0.mk A90
   clear A90
   replace H := Option.bind_eq_some_iff.mp H
   obtain ⟨⟨t266, t269⟩, A100, H⟩ := H
   replace H : (if t265 = t269 then (signalbenchlaw19_StuffEncodes.j1 kj3 t262 t266 ((t262.length : Int) != (t266.length : Int))) else (signalbenchlaw19_StuffEncodes.j1 kj3 t262 t266 true)) = some r := H
   have A10 := Aside0.mk A100
   clear A100
   have HC11 := Aside0.mk H
   clear H
   have hcz12_0 : wc.cell? ⟨gb259, 0, none⟩ = some (.int .i64 a0_0) := (blk_cell BK259.out 0).trans rfl
   have hcz12_1 : wc.cell? ⟨gb259, 1, none⟩ = some (.bool a0_1) := (blk_cell BK259.out 1).trans rfl
   have hfz12_0 := blk_frozen BK259.out 0
   have hfz12_1 := blk_frozen BK259.out 1
   go_upto_region 5 with (first | (go_at_call 21; (with_reducible refine (stuff_Encode.calls kj3 a0_0 a0_1 _ _ l1 t262 t265 _ ?side1 ?side2 A9.out).mono ?_); (case side1 => repeat (first | exact (Kd.C_below HR1.out HB.out) | (with_reducible refine Kd.C_alloc ?_ _) | (with_reducible refine Kd.C_drewN ?_ _) | (with_reducible refine Kd.C_drew ?_))); (case side2 => exact HC1.out); rintro e w13 ⟨v263, rfl, ho0, hb⟩; have n0_ := Aside0.mk (Kd.R_lower ho0 (below_size (hbw HB.out))); have n1_ := Aside0.mk (blkb BK259.out hb); have n2_ := Aside0.mk (below_step (hbw HB.out) hb); clear BK259; clear HB; have HO264 := n0_; have BK259 := n1_; have HB := n2_; clear n0_ n1_ n2_; (try clear hb); (try clear hb2); (try clear hk); (try clear hi); (try clear ho0); have hcz14_0 : w13.cell? ⟨gb259, 0, none⟩ = some (.int .i64 a0_0) := (blk_cell BK259.out 0).trans rfl; have hcz14_1 : w13.cell? ⟨gb259, 1, none⟩ = some (.bool a0_1) := (blk_cell BK259.out 1).trans rfl; have hfz14_0 := blk_frozen BK259.out 0; have hfz14_1 := blk_frozen BK259.out 1) | (go_at_call 22; (with_reducible refine (signalbenchref19_Encode.calls kj3 a0_0 a0_1 _ _ l1 t266 t269 _ ?side1 ?side2 A10.out).mono ?_); (case side1 => repeat (first | exact (Kd.C_below HR1.out HB.out) | (with_reducible refine Kd.C_alloc ?_ _) | (with_reducible refine Kd.C_drewN ?_ _) | (with_reducible refine Kd.C_drew ?_))); (case side2 => exact HC1.out); rintro e w15 ⟨v267, rfl, ho0, hb⟩; have n0_ := Aside0.mk (Kd.R_elder' (rkw HO264.out) (Kd.R_base ho0) hb); have n1_ := Aside0.mk (Kd.R_lower (Kd.R_new' ho0 (Kd.R_lt (rkw HO264.out))) (below_size (hbw HB.out))); have n2_ := Aside0.mk (blkb BK259.out hb); have n3_ := Aside0.mk (below_step (hbw HB.out) hb); clear HO264; clear BK259; clear HB; have HO264 := n0_; have HO268 := n1_; have BK259 := n2_; have HB := n3_; clear n0_ n1_ n2_ n3_; (try clear hb); (try clear hb2); (try clear hk); (try clear hi); (try clear ho0)))
   repeat (go_quiet (first | (go_at_call 21; (with_reducible refine (stuff_Encode.calls kj3 a0_0 a0_1 _ _ l1 t262 t265 _ ?side1 ?side2 A9.out).mono ?_); (case side1 => repeat (first | exact (Kd.C_below HR1.out HB.out) | (with_reducible refine Kd.C_alloc ?_ _) | (with_reducible refine Kd.C_drewN ?_ _) | (with_reducible refine Kd.C_drew ?_))); (case side2 => exact HC1.out); rintro e w13 ⟨v263, rfl, ho0, hb⟩; have n0_ := Aside0.mk (Kd.R_lower ho0 (below_size (hbw HB.out))); have n1_ := Aside0.mk (blkb BK259.out hb); have n2_ := Aside0.mk (below_step (hbw HB.out) hb); clear BK259; clear HB; have HO264 := n0_; have BK259 := n1_; have HB := n2_; clear n0_ n1_ n2_; (try clear hb); (try clear hb2); (try clear hk); (try clear hi); (try clear ho0); have hcz14_0 : w13.cell? ⟨gb259, 0, none⟩ = some (.int .i64 a0_0) := (blk_cell BK259.out 0).trans rfl; have hcz14_1 : w13.cell? ⟨gb259, 1, none⟩ = some (.bool a0_1) := (blk_cell BK259.out 1).trans rfl; have hfz14_0 := blk_frozen BK259.out 0; have hfz14_1 := blk_frozen BK259.out 1) | (go_at_call 22; (with_reducible refine (signalbenchref19_Encode.calls kj3 a0_0 a0_1 _ _ l1 t266 t269 _ ?side1 ?side2 A10.out).mono ?_); (case side1 => repeat (first | exact (Kd.C_below HR1.out HB.out) | (with_reducible refine Kd.C_alloc ?_ _) | (with_reducible refine Kd.C_drewN ?_ _) | (with_reducible refine Kd.C_drew ?_))); (case side2 => exact HC1.out); rintro e w15 ⟨v267, rfl, ho0, hb⟩; have n0_ := Aside0.mk (Kd.R_elder' (rkw HO264.out) (Kd.R_base ho0) hb); have n1_ := Aside0.mk (Kd.R_lower (Kd.R_new' ho0 (Kd.R_lt (rkw HO264.out))) (below_size (hbw HB.out))); have n2_ := Aside0.mk (blkb BK259.out hb); have n3_ := Aside0.mk (below_step (hbw HB.out) hb); clear HO264; clear BK259; clear HB; have HO264 := n0_; have HO268 := n1_; have BK259 := n2_; have HB := n3_; clear n0_ n1_ n2_ n3_; (try clear hb); (try clear hb2); (try clear hk); (try clear hi); (try clear ho0))); go_upto_region 5 with (first | (go_at_call 21; (with_reducible refine (stuff_Encode.calls kj3 a0_0 a0_1 _ _ l1 t262 t265 _ ?side1 ?side2 A9.out).mono ?_); (case side1 => repeat (first | exact (Kd.C_below HR1.out HB.out) | (with_reducible refine Kd.C_alloc ?_ _) | (with_reducible refine Kd.C_drewN ?_ _) | (with_reducible refine Kd.C_drew ?_))); (case side2 => exact HC1.out); rintro e w13 ⟨v263, rfl, ho0, hb⟩; have n0_ := Aside0.mk (Kd.R_lower ho0 (below_size (hbw HB.out))); have n1_ := Aside0.mk (blkb BK259.out hb); have n2_ := Aside0.mk (below_step (hbw HB.out) hb); clear BK259; clear HB; have HO264 := n0_; have BK259 := n1_; have HB := n2_; clear n0_ n1_ n2_; (try clear hb); (try clear hb2); (try clear hk); (try clear hi); (try clear ho0); have hcz14_0 : w13.cell? ⟨gb259, 0, none⟩ = some (.int .i64 a0_0) := (blk_cell BK259.out 0).trans rfl; have hcz14_1 : w13.cell? ⟨gb259, 1, none⟩ = some (.bool a0_1) := (blk_cell BK259.out 1).trans rfl; have hfz14_0 := blk_frozen BK259.out 0; have hfz14_1 := blk_frozen BK259.out 1) | (go_at_call 22; (with_reducible refine (signalbenchref19_Encode.calls kj3 a0_0 a0_1 _ _ l1 t266 t269 _ ?side1 ?side2 A10.out).mono ?_); (case side1 => repeat (first | exact (Kd.C_below HR1.out HB.out) | (with_reducible refine Kd.C_alloc ?_ _) | (with_reducible refine Kd.C_drewN ?_ _) | (with_reducible refine Kd.C_drew ?_))); (case side2 => exact HC1.out); rintro e w15 ⟨v267, rfl, ho0, hb⟩; have n0_ := Aside0.mk (Kd.R_elder' (rkw HO264.out) (Kd.R_base ho0) hb); have n1_ := Aside0.mk (Kd.R_lower (Kd.R_new' ho0 (Kd.R_lt (rkw HO264.out))) (below_size (hbw HB.out))); have n2_ := Aside0.mk (blkb BK259.out hb); have n3_ := Aside0.mk (below_step (hbw HB.out) hb); clear HO264; clear BK259; clear HB; have HO264 := n0_; have HO268 := n1_; have BK259 := n2_; have HB := n3_; clear n0_ n1_ n2_ n3_; (try clear hb); (try clear hb2); (try clear hk); (try clear hi); (try clear ho0))))
   (try simp only [Act.put, List.setIfInBounds_toArray, List.set_cons_zero, List.set_cons_succ])
   go_cut [35] (fun v35 wc => ∃ (kq : Nat) (x35_10 : Bool), v35 = .bool x35_10 ∧ Aside0 (signalbenchlaw19_StuffEncodes.j1 kq t262 t266 x35_10 = some r) ∧ Aside0 (kq ≤ kj3) ∧ Aside0 (Kd.R k45 45 wc w.heap.size (fun k_ => some k_ ≠ (v267 : Value).ownBlock) v263 t262) ∧ Aside0 (Kd.R k45 45 wc w.heap.size (fun k_ => some k_ ≠ (v263 : Value).ownBlock) v267 t266) ∧ Aside0 (wc.heap[gb259]? = some (.cells #[.int .i64 a0_0, .bool a0_1] 23 (0, 0))) ∧ Aside0 (Below w.heap.size w wc))
   case first =>
    have H := HC11.out
    clear HC11
    by_cases c16 : t265 = t269
    ·rw [if_pos c16] at H
     have c16b0 : (t265 == t269) = true := beq_iff_eq.mpr c16
     have c16b1 : (t265 != t269) = false := bne_eq_false_iff_eq.mpr c16
     clear c16
     (first | rw [c16b0] | (simp only [i64_w, i32_w]; rw [c16b0]) | skip)
     have H' := Aside0.mk H
     clear H
     obtain ⟨Ao17, co17, eo17⟩ := Kd.R_slice HO264.out
     subst eo17
     obtain ⟨Ao18, co18, eo18⟩ := Kd.R_slice HO268.out
     subst eo18
     go_wp2
     repeat (go_quiet (fail); try go_wp2)
     go_meet
     case rel => exact ⟨_, (((t262.length : Int) != (t266.length : Int))), (by first | rfl | (simp; done) | (simp [*]; done)), H', ⟨by have := HJ3.out; first | omega | exact Nat.le_refl _⟩, ⟨by (with_reducible repeat (first | apply Kd.R_alloc | apply Kd.R_drewN | apply Kd.R_drew)); exact Kd.R_mono HO264.out (fun _ hk => hk.2)⟩, ⟨by (with_reducible repeat (first | apply Kd.R_alloc | apply Kd.R_drewN | apply Kd.R_drew)); exact Kd.R_mono HO268.out (fun _ hk => hk.2)⟩, ⟨by (with_reducible repeat (first | refine blk_drewN ?_ _ | refine blk_drew ?_ | refine blk_alloc ?_ _)); exact BK259.out⟩, ⟨by repeat (first | (with_reducible first | exact HB.out | apply below_alloc | apply pw_below_drewN | apply below_drew1 | refine below_set ?_ GE259.out) | exact HB.out)⟩⟩
    ·rw [if_neg c16] at H
     have c16b0 : (t265 == t269) = false := beq_eq_false_iff_ne.mpr c16
     have c16b1 : (t265 != t269) = true := bne_iff_ne.mpr c16
     (first | rw [c16b0] | (simp only [i64_w, i32_w]; rw [c16b0]) | skip)
     have H' := Aside0.mk H
     clear H
     go_wp2
     repeat (go_quiet (fail); try go_wp2)
     go_meet
     case rel => exact ⟨_, (true), (by first | rfl | (simp; done) | (simp [*]; done)), H', ⟨by have := HJ3.out; first | omega | exact Nat.le_refl _⟩, ⟨by (with_reducible repeat (first | apply Kd.R_alloc | apply Kd.R_drewN | apply Kd.R_drew)); exact Kd.R_mono HO264.out (fun _ hk => hk.2)⟩, ⟨by (with_reducible repeat (first | apply Kd.R_alloc | apply Kd.R_drewN | apply Kd.R_drew)); exact Kd.R_mono HO268.out (fun _ hk => hk.2)⟩, ⟨by (with_reducible repeat (first | refine blk_drewN ?_ _ | refine blk_drew ?_ | refine blk_alloc ?_ _)); exact BK259.out⟩, ⟨by repeat (first | (with_reducible first | exact HB.out | apply below_alloc | apply pw_below_drewN | apply below_drew1 | refine below_set ?_ GE259.out) | exact HB.out)⟩⟩
   case rest =>
    clear HC11
    try clear c1
    try clear p2
    try clear c4
    try clear c6
    try clear c16
    try clear c16b0
    try clear c16b1
    try clear hcz12_0
    try clear hcz12_1
    try clear hcz14_0
    try clear hcz14_1
    try clear hfz12_0
    try clear hfz12_1
    try clear hfz14_0
    try clear hfz14_1
    try clear p2
    obtain ⟨kq, x35_10, rfl, HA, HJ10, HO_5, HO_7, BK259, HB⟩ := hcut
    cases kq with
    | zero => exact absurd HA.out (by simp [signalbenchlaw19_StuffEncodes.j1])
    | succ kj10 =>
     have H := HA.out
     clear HA
     simp only [signalbenchlaw19_StuffEncodes.j1] at H
     have HC19 := Aside0.mk H
     clear H
     go_upto_if 35 with (fail)
     repeat (go_quiet (fail); go_upto_if 35 with (fail))
     go_cut [] (fun wc => ∃ (kq : Nat), Aside0 (signalbenchlaw19_StuffEncodes.j2 kq t262 t266 = some r) ∧ Aside0 (kq ≤ kj10) ∧ Aside0 (Kd.R k45 45 wc w.heap.size (fun k_ => some k_ ≠ (v267 : Value).ownBlock) v263 t262) ∧ Aside0 (Kd.R k45 45 wc w.heap.size (fun k_ => some k_ ≠ (v263 : Value).ownBlock) v267 t266) ∧ Aside0 (wc.heap[gb259]? = some (.cells #[.int .i64 a0_0, .bool a0_1] 23 (0, 0))) ∧ Aside0 (Below w.heap.size w wc))
     case first =>
      have H := HC19.out
      clear HC19
      by_cases c20 : x35_10 = true
      ·subst c20
       have H1 : (some false) = some r := by rw [if_pos rfl] at H; exact H
       clear H
       have H := H1
       clear H1
       obtain rfl := Option.some.inj H
       go_wp2
       repeat (go_quiet (fail); try go_wp2)
       go_ret
       exact ⟨by first | rfl | (simp [errW_none, errW_some] <;> rfl) | (simp [*, errW_none, errW_some] <;> rfl), by repeat (first | (with_reducible first | exact HB.out | apply below_alloc | apply pw_below_drewN | apply below_drew1 | refine below_set ?_ GE259.out) | exact HB.out)⟩
      ·replace c20 := Bool.eq_false_iff.mpr c20
       subst c20
       have H1 : (signalbenchlaw19_StuffEncodes.j2 kj10 t262 t266) = some r := by rw [if_neg (show ¬ (false = true) by decide)] at H; exact H
       clear H
       have H := H1
       clear H1
       have H' := Aside0.mk H
       clear H
       go_wp2
       repeat (go_quiet (fail); try go_wp2)
       go_meet
       case rel => exact ⟨_, H', ⟨by have := HJ3.out; have := HJ10.out; first | omega | exact Nat.le_refl _⟩, ⟨by (with_reducible repeat (first | apply Kd.R_alloc | apply Kd.R_drewN | apply Kd.R_drew)); exact HO_5.out⟩, ⟨by (with_reducible repeat (first | apply Kd.R_alloc | apply Kd.R_drewN | apply Kd.R_drew)); exact HO_7.out⟩, ⟨by (with_reducible repeat (first | refine blk_drewN ?_ _ | refine blk_drew ?_ | refine blk_alloc ?_ _)); exact BK259.out⟩, ⟨by repeat (first | (with_reducible first | exact HB.out | apply below_alloc | apply pw_below_drewN | apply below_drew1 | refine below_set ?_ GE259.out) | exact HB.out)⟩⟩
     case rest =>
      clear HC19
      try clear c1
      try clear c2
      try clear p2
      try clear c4
      try clear c6
      try clear c16
      try clear c16b0
      try clear c16b1
      try clear c20
      try clear hcz12_0
      try clear hcz12_1
      try clear hcz14_0
      try clear hcz14_1
      try clear hfz12_0
      try clear hfz12_1
      try clear hfz14_0
      try clear hfz14_1
      try clear p2
      obtain ⟨kq, HA, HJ18, HO_5, HO_7, BK259, HB⟩ := hcut
      cases kq with
      | zero => exact absurd HA.out (by simp [signalbenchlaw19_StuffEncodes.j2])
      | succ kj18 =>
       have H := HA.out
       clear HA
       simp only [signalbenchlaw19_StuffEncodes.j2] at H
       have H' := Aside0.mk H
       clear H
       go_wp2
       repeat (go_quiet (fail); try go_wp2)
       go_loopg [9] kj18 (fun kq v9 w' => ∃ (x9_4 : Int), v9 = .int .i64 x9_4 ∧ Aside0 (signalbenchlaw19_StuffEncodes.l0 kq t262 t266 x9_4 = some r) ∧ Aside0 (kq ≤ kj18) ∧ Aside0 (Kd.R k45 45 w' w.heap.size (fun k_ => some k_ ≠ (v267 : Value).ownBlock) v263 t262) ∧ Aside0 (Kd.R k45 45 w' w.heap.size (fun k_ => some k_ ≠ (v263 : Value).ownBlock) v267 t266) ∧ Aside0 (w'.heap[gb259]? = some (.cells #[.int .i64 a0_0, .bool a0_1] 23 (0, 0))) ∧ Aside0 (Below w.heap.size w w'))
       case atStart => exact ⟨(0), (by first | rfl | (simp; done) | (simp [*]; done)), H', ⟨Nat.le_refl _⟩, ⟨by (with_reducible repeat (first | apply Kd.R_alloc | apply Kd.R_drewN | apply Kd.R_drew)); exact HO_5.out⟩, ⟨by (with_reducible repeat (first | apply Kd.R_alloc | apply Kd.R_drewN | apply Kd.R_drew)); exact HO_7.out⟩, ⟨by (with_reducible repeat (first | refine blk_drewN ?_ _ | refine blk_drew ?_ | refine blk_alloc ?_ _)); exact BK259.out⟩, ⟨by repeat (first | (with_reducible first | exact HB.out | apply below_alloc | apply pw_below_drewN | apply below_drew1 | refine below_set ?_ GE259.out) | exact HB.out)⟩⟩
       case round =>
        clear H'
        try clear c1
        try clear c2
        try clear p2
        try clear c4
        try clear c6
        try clear c16
        try clear c16b0
        try clear c16b1
        try clear c20
        try clear hcz12_0
        try clear hcz12_1
        try clear hcz14_0
        try clear hcz14_1
        try clear hfz12_0
        try clear hfz12_1
        try clear hfz14_0
        try clear hfz14_1
        try clear p2
        obtain ⟨x9_4, rfl, HA, HK4, HO_5, HO_7, BK259, HB⟩ := hrel
        cases gk with
        | zero => exact absurd HA.out (by simp [signalbenchlaw19_StuffEncodes.l0])
        | succ k4 =>
         have H := HA.out
         clear HA
         simp only [signalbenchlaw19_StuffEncodes.l0] at H
         by_cases c21 : x9_4 < (t266.length : Int)
         ·rw [if_pos c21] at H
          have c21b0 : decide (x9_4 < (t266.length : Int)) = true := decide_eq_true c21
          clear c21
          by_cases c22 : 0 ≤ x9_4
          ·rw [if_pos c22] at H
           have c22b0 : decide (0 ≤ x9_4) = true := decide_eq_true c22
           clear c22
           by_cases c23 : x9_4 < (t262.length : Int)
           ·rw [if_pos c23] at H
            have c23b0 : decide (x9_4 < (t262.length : Int)) = true := decide_eq_true c23
            clear c23
            by_cases c24 : (!(((rd_T45 t262 x9_4).f0) == ((rd_T45 t266 x9_4).f0)) || (!(((rd_T45 t262 x9_4).f1) == ((rd_T45 t266 x9_4).f1)) || (!(((rd_T45 t262 x9_4).f2) == ((rd_T45 t266 x9_4).f2)) || (!((((rd_T45 t262 x9_4).f3).toList) == (((rd_T45 t266 x9_4).f3).toList)) || (!(((rd_T45 t262 x9_4).f4) == ((rd_T45 t266 x9_4).f4))))))) = true
            ·rw [if_pos c24] at H
             have c24b0 : (!(((rd_T45 t262 x9_4).f0) == ((rd_T45 t266 x9_4).f0)) || (!(((rd_T45 t262 x9_4).f1) == ((rd_T45 t266 x9_4).f1)) || (!(((rd_T45 t262 x9_4).f2) == ((rd_T45 t266 x9_4).f2)) || (!((((rd_T45 t262 x9_4).f3).toList) == (((rd_T45 t266 x9_4).f3).toList)) || (!(((rd_T45 t262 x9_4).f4) == ((rd_T45 t266 x9_4).f4))))))) = true := c24
             (try (have c24b1 : ((rd_T45 t262 x9_4).f0 = ((rd_T45 t266 x9_4).f0) ∧ (rd_T45 t262 x9_4).f1 = ((rd_T45 t266 x9_4).f1) ∧ (rd_T45 t262 x9_4).f2 = ((rd_T45 t266 x9_4).f2) ∧ ((rd_T45 t262 x9_4).f3).toList = (((rd_T45 t266 x9_4).f3).toList) ∧ (rd_T45 t262 x9_4).f4 = ((rd_T45 t266 x9_4).f4)) = False := eq_false (by intro h_; have e_ := c24; simp [h_] at e_)))
             clear c24
             obtain rfl := Option.some.inj H
             obtain ⟨Ao25, co25, eo25⟩ := Kd.R_slice HO_7.out
             subst eo25
             obtain ⟨Ao26, co26, eo26⟩ := Kd.R_slice HO_5.out
             subst eo26
             have p270 : 0 ≤ (x9_4 : Int) := of_decide_eq_true (by first | (with_reducible assumption) | assumption)
             have q270 : x9_4 < (t262.length : Int) := of_decide_eq_true (by first | (with_reducible assumption) | assumption)
             obtain ⟨ad270, e270, hx270_0, hx270_1, hx270_2, hx270_3, hx270_4⟩ := at_T45 (Kd.R_reads' HO_5.out).2.2 x9_4 p270 q270
             cases e270
             replace p270 := eq_true p270
             replace q270 := eq_true q270
             have p271 : 0 ≤ (x9_4 : Int) := of_decide_eq_true (by first | (with_reducible assumption) | assumption)
             have q271 : x9_4 < (t266.length : Int) := of_decide_eq_true (by first | (with_reducible assumption) | assumption)
             obtain ⟨ad271, e271, hx271_0, hx271_1, hx271_2, hx271_3, hx271_4⟩ := at_T45 (Kd.R_reads' HO_7.out).2.2 x9_4 p271 q271
             cases e271
             replace p271 := eq_true p271
             replace q271 := eq_true q271
             go_wp2
             repeat (go_quiet (fail); try go_wp2)
             go_ret
             exact ⟨by first | rfl | (simp [errW_none, errW_some] <;> rfl) | (simp [*, errW_none, errW_some] <;> rfl), by repeat (first | (with_reducible first | exact HB.out | apply below_alloc | apply pw_below_drewN | apply below_drew1 | refine below_set ?_ GE259.out) | exact HB.out)⟩
            ·rw [if_neg c24] at H
             have c24b0 : (!(((rd_T45 t262 x9_4).f0) == ((rd_T45 t266 x9_4).f0)) || (!(((rd_T45 t262 x9_4).f1) == ((rd_T45 t266 x9_4).f1)) || (!(((rd_T45 t262 x9_4).f2) == ((rd_T45 t266 x9_4).f2)) || (!((((rd_T45 t262 x9_4).f3).toList) == (((rd_T45 t266 x9_4).f3).toList)) || (!(((rd_T45 t262 x9_4).f4) == ((rd_T45 t266 x9_4).f4))))))) = false := by simpa using c24
             (try (have c24b1 : ((rd_T45 t262 x9_4).f0 = ((rd_T45 t266 x9_4).f0) ∧ (rd_T45 t262 x9_4).f1 = ((rd_T45 t266 x9_4).f1) ∧ (rd_T45 t262 x9_4).f2 = ((rd_T45 t266 x9_4).f2) ∧ ((rd_T45 t262 x9_4).f3).toList = (((rd_T45 t266 x9_4).f3).toList) ∧ (rd_T45 t262 x9_4).f4 = ((rd_T45 t266 x9_4).f4)) = True := eq_true (by simpa using c24)))
             clear c24
             have H' := Aside0.mk H
             clear H
             obtain ⟨Ao27, co27, eo27⟩ := Kd.R_slice HO_7.out
             subst eo27
             obtain ⟨Ao28, co28, eo28⟩ := Kd.R_slice HO_5.out
             subst eo28
             have p270 : 0 ≤ (x9_4 : Int) := of_decide_eq_true (by first | (with_reducible assumption) | assumption)
             have q270 : x9_4 < (t262.length : Int) := of_decide_eq_true (by first | (with_reducible assumption) | assumption)
             obtain ⟨ad270, e270, hx270_0, hx270_1, hx270_2, hx270_3, hx270_4⟩ := at_T45 (Kd.R_reads' HO_5.out).2.2 x9_4 p270 q270
             cases e270
             replace p270 := eq_true p270
             replace q270 := eq_true q270
             have p271 : 0 ≤ (x9_4 : Int) := of_decide_eq_true (by first | (with_reducible assumption) | assumption)
             have q271 : x9_4 < (t266.length : Int) := of_decide_eq_true (by first | (with_reducible assumption) | assumption)
             obtain ⟨ad271, e271, hx271_0, hx271_1, hx271_2, hx271_3, hx271_4⟩ := at_T45 (Kd.R_reads' HO_7.out).2.2 x9_4 p271 q271
             cases e271
             replace p271 := eq_true p271
             replace q271 := eq_true q271
             go_wp2
             repeat (go_quiet (fail); try go_wp2)
             go_roundg k4
             case measure => have := HJ3.out; have := HJ10.out; have := HJ18.out; have := HK4.out; omega
             case rel => exact ⟨(wrap64 (x9_4 + 1)), (by first | rfl | (simp; done) | (simp [*]; done)), H', ⟨by have := HJ3.out; have := HJ10.out; have := HJ18.out; have := HK4.out; omega⟩, ⟨by (with_reducible repeat (first | apply Kd.R_alloc | apply Kd.R_drewN | apply Kd.R_drew)); exact HO_5.out⟩, ⟨by (with_reducible repeat (first | apply Kd.R_alloc | apply Kd.R_drewN | apply Kd.R_drew)); exact HO_7.out⟩, ⟨by (with_reducible repeat (first | refine blk_drewN ?_ _ | refine blk_drew ?_ | refine blk_alloc ?_ _)); exact BK259.out⟩, ⟨by repeat (first | (with_reducible first | exact HB.out | apply below_alloc | apply pw_below_drewN | apply below_drew1 | refine below_set ?_ GE259.out) | exact HB.out)⟩⟩
           ·rw [if_neg c23] at H
            exact absurd H (by simp)
          ·rw [if_neg c22] at H
           exact absurd H (by simp)
         ·rw [if_neg c21] at H
          have c21b0 : decide (x9_4 < (t266.length : Int)) = false := decide_eq_false c21
          clear c21
          replace H := Option.bind_eq_some_iff.mp H
          obtain ⟨t272, A290, H⟩ := H
          replace H : (some t272) = some r := H
          have A29 := Aside0.mk A290
          clear A290
          obtain rfl := Option.some.inj H
          obtain ⟨Ao30, co30, eo30⟩ := Kd.R_slice HO_7.out
          subst eo30
          go_wp2_with (first | (go_at_call 9; (with_reducible refine (signalbenchlaw19_awake.calls k4  t272 _ A29.out).mono ?_); rintro e w31 ⟨rfl, hb⟩; have n0_ := Aside0.mk (Kd.R_below (rkw HO_5.out) hb); have n1_ := Aside0.mk (Kd.R_below (rkw HO_7.out) hb); have n2_ := Aside0.mk (blkb BK259.out hb); have n3_ := Aside0.mk (below_step (hbw HB.out) hb); clear HO_5; clear HO_7; clear BK259; clear HB; have HO_5 := n0_; have HO_7 := n1_; have BK259 := n2_; have HB := n3_; clear n0_ n1_ n2_ n3_; (try clear hb); (try clear hb2); (try clear hk); (try clear hi)))
          repeat (go_quiet (first | (go_at_call 9; (with_reducible refine (signalbenchlaw19_awake.calls k4  t272 _ A29.out).mono ?_); rintro e w31 ⟨rfl, hb⟩; have n0_ := Aside0.mk (Kd.R_below (rkw HO_5.out) hb); have n1_ := Aside0.mk (Kd.R_below (rkw HO_7.out) hb); have n2_ := Aside0.mk (blkb BK259.out hb); have n3_ := Aside0.mk (below_step (hbw HB.out) hb); clear HO_5; clear HO_7; clear BK259; clear HB; have HO_5 := n0_; have HO_7 := n1_; have BK259 := n2_; have HB := n3_; clear n0_ n1_ n2_ n3_; (try clear hb); (try clear hb2); (try clear hk); (try clear hi))); try go_wp2_with (first | (go_at_call 9; (with_reducible refine (signalbenchlaw19_awake.calls k4  t272 _ A29.out).mono ?_); rintro e w31 ⟨rfl, hb⟩; have n0_ := Aside0.mk (Kd.R_below (rkw HO_5.out) hb); have n1_ := Aside0.mk (Kd.R_below (rkw HO_7.out) hb); have n2_ := Aside0.mk (blkb BK259.out hb); have n3_ := Aside0.mk (below_step (hbw HB.out) hb); clear HO_5; clear HO_7; clear BK259; clear HB; have HO_5 := n0_; have HO_7 := n1_; have BK259 := n2_; have HB := n3_; clear n0_ n1_ n2_ n3_; (try clear hb); (try clear hb2); (try clear hk); (try clear hi))))
          go_ret
          exact ⟨by first | rfl | (simp [errW_none, errW_some] <;> rfl) | (simp [*, errW_none, errW_some] <;> rfl), by repeat (first | (with_reducible first | exact HB.out | apply below_alloc | apply pw_below_drewN | apply below_drew1 | refine below_set ?_ GE259.out) | exact HB.out)⟩

/-- THE ONE PURE STATEMENT of signalbenchlaw19_StuffEncodes: yours. -/
def signalbenchlaw19_StuffEncodes.Pure : Prop := ∀ (a0_0 : Int) (a0_1 : Bool) (l1 : List (S45)), (Lit.int .i64 a0_0).wf = true → l1.length ≤ maxLen → l1.length * 48 ≤ 140737488351232 → (∀ x ∈ l1, (Lit.int .i64 x.f0).wf = true ∧ (Lit.int .i64 x.f1).wf = true ∧ (Lit.int .i64 x.f2).wf = true ∧ x.f3.size ≤ 140737488351232 ∧ (Lit.int .i64 x.f4).wf = true) → ∃ k, signalbenchlaw19_StuffEncodes.f k a0_0 a0_1 l1 = some true
theorem signalbenchlaw19_StuffEncodes.walk (P : signalbenchlaw19_StuffEncodes.Pure) (a0_0 : Int) (a0_1 : Bool) (A1 : Option Addr) (c1 : Nat) (l1 : List (S45)) (w : World) (hr1 : Kd.C k45 w A1 l1.length l1) (hc1 : l1.length ≤ c1) (w0_ : (Lit.int .i64 a0_0).wf = true) (w1_ : l1.length ≤ maxLen) (w2_ : l1.length * 48 ≤ 140737488351232) (w3_ : (∀ x ∈ l1, (Lit.int .i64 x.f0).wf = true ∧ (Lit.int .i64 x.f1).wf = true ∧ (Lit.int .i64 x.f2).wf = true ∧ x.f3.size ≤ 140737488351232 ∧ (Lit.int .i64 x.f4).wf = true)) :
  Calls Try.prog 4 #[.agg #[.int .i64 a0_0, .bool a0_1], .slice A1 l1.length c1] w fun e w' => e = .returned (.bool true) ∧ Below w.heap.size w w' := by
 obtain ⟨k, h⟩ := P a0_0 a0_1 l1 w0_ w1_ w2_ w3_
 refine (signalbenchlaw19_StuffEncodes.calls k a0_0 a0_1 A1 c1 l1 true w hr1 hc1 h).mono ?_
 rintro e w' ⟨rfl, hd⟩
 exact ⟨rfl, hd⟩

end Go.Proofs.Ytpgeomgaphodkaa.PStuffEncodes
