-- Written by a program of this session (wip/tools/pr.py), which calls the kit's print with changes of its own.
import Derived.Test.YtjgfhccibljkbaaPNrziEncodesx0
import Derived.Test.YtjgfhccibljkbaaPNrziEncodesx2
import Derived.Test.YtjgfhccibljkbaaPNrziEncodesx6
import Derived.Test.YtjgfhccibljkbaaPNrziEncodesx7
import Derived.Test.YtjgfhccibljkbaaPNrziEncodesx8
namespace Go.Proofs.Ytjgfhccibljkbaa.PNrziEncodes
open Go.RowKit Go.Proofs.YtjgfhccibljkbaaW.PrintWords Go.Proofs.YtjgfhccibljkbaaW.PrintLast Go.Proofs.YtjgfhccibljkbaaW.PrintMore
attribute [local go_sem] max2_int min2_int max_two min_two max_three min_three max_four min_four   -- for this text's walks alone
set_option linter.unusedVariables false
set_option linter.unusedSimpArgs false

attribute [local go_sem high] eqA44
/-! ### signalbenchlaw16_NrziEncodes: function 7 -/
mutual
def signalbenchlaw16_NrziEncodes.j0 : Nat → List (S44) → Bool → Option (Bool)
 | 0, _, _ => none
 | k + 1, x1, x214000 => (nrzi_Encode.f k x214000 x1).bind fun bt216 => ((signalbenchref16_Encode.f k x214000 x1).bind fun bt220 => (if bt216.2 = bt220.2 then (if (bt216.1.length : Int) = (bt220.1.length : Int) then ((nrzi_Check.f x214000).bind fun t224 => (signalbenchlaw16_NrziEncodes.j1 k bt216.1 bt220.1 (t224 != 0))) else (signalbenchlaw16_NrziEncodes.j1 k bt216.1 bt220.1 true)) else (signalbenchlaw16_NrziEncodes.j1 k bt216.1 bt220.1 true)))
def signalbenchlaw16_NrziEncodes.j1 : Nat → List (S44) → List (S44) → Bool → Option (Bool)
 | 0, _, _, _ => none
 | k + 1, x5, x7, x40 => if x40 = true then (some false) else (signalbenchlaw16_NrziEncodes.j2 k x5 x7)
def signalbenchlaw16_NrziEncodes.j2 : Nat → List (S44) → List (S44) → Option (Bool)
 | 0, _, _ => none
 | k + 1, x5, x7 => signalbenchlaw16_NrziEncodes.l0 k x5 x7 0
def signalbenchlaw16_NrziEncodes.l0 : Nat → List (S44) → List (S44) → Int → Option (Bool)
 | 0, _, _, _ => none
 | k + 1, x5, x7, x9 => if x9 < (x7.length : Int) then (if 0 ≤ x9 then (if x9 < (x5.length : Int) then (if (!(((rd_T44 x5 x9).f0) == ((rd_T44 x7 x9).f0)) || (!(((rd_T44 x5 x9).f1) == ((rd_T44 x7 x9).f1)) || (!(((rd_T44 x5 x9).f2) == ((rd_T44 x7 x9).f2)) || (!((((rd_T44 x5 x9).f3).toList) == (((rd_T44 x7 x9).f3).toList)) || (!(((rd_T44 x5 x9).f4) == ((rd_T44 x7 x9).f4))))))) = true then (some false) else (signalbenchlaw16_NrziEncodes.l0 k x5 x7 (wrap64 (x9 + 1)))) else (none)) else (none)) else ((signalbenchlaw16_awake.f k).bind fun t227 => (some t227))
end
def signalbenchlaw16_NrziEncodes.f (k : Nat) (a0_0 : Bool) (l1 : List (S44)) : Option (Bool) := (signalbenchlaw16_tiny.f k l1).bind fun t214 => (if t214 = true then (signalbenchlaw16_NrziEncodes.j0 k l1 a0_0) else ((signalbenchlaw16_awake.f k).bind fun t215 => (some t215)))
theorem signalbenchlaw16_NrziEncodes.mono_l : ∀ k, (∀ y0 y1, LeO (signalbenchlaw16_NrziEncodes.j0 k y0 y1) (signalbenchlaw16_NrziEncodes.j0 (k + 1) y0 y1)) ∧ (∀ y0 y1 y2, LeO (signalbenchlaw16_NrziEncodes.j1 k y0 y1 y2) (signalbenchlaw16_NrziEncodes.j1 (k + 1) y0 y1 y2)) ∧ (∀ y0 y1, LeO (signalbenchlaw16_NrziEncodes.j2 k y0 y1) (signalbenchlaw16_NrziEncodes.j2 (k + 1) y0 y1)) ∧ (∀ y0 y1 y2, LeO (signalbenchlaw16_NrziEncodes.l0 k y0 y1 y2) (signalbenchlaw16_NrziEncodes.l0 (k + 1) y0 y1 y2))
 | 0 => ⟨fun _ _ r h => by simp [signalbenchlaw16_NrziEncodes.j0] at h, fun _ _ _ r h => by simp [signalbenchlaw16_NrziEncodes.j1] at h, fun _ _ r h => by simp [signalbenchlaw16_NrziEncodes.j2] at h, fun _ _ _ r h => by simp [signalbenchlaw16_NrziEncodes.l0] at h⟩
 | k + 1 => by
  obtain ⟨ih0, ih1, ih2, ih3⟩ := signalbenchlaw16_NrziEncodes.mono_l k
  refine ⟨?_, ?_, ?_, ?_⟩
  ·intro y0 y1
   unfold signalbenchlaw16_NrziEncodes.j0
   repeat' first
   | (with_reducible exact ih0 _ _)
   | (with_reducible exact ih1 _ _ _)
   | (with_reducible exact ih2 _ _)
   | (with_reducible exact ih3 _ _ _)
   | (with_reducible exact nrzi_Encode.mono _ _ _)
   | (with_reducible exact signalbenchlaw16_awake.mono _)
   | (with_reducible exact signalbenchlaw16_tiny.mono _ _)
   | (with_reducible exact signalbenchref16_Encode.mono _ _ _)
   | (with_reducible exact LeO.refl _)
   | (with_reducible exact LeO.none _)
   | (with_reducible refine LeO.ite ?_ ?_)
   | (with_reducible refine LeO.bind ?_ (fun _ => ?_))
   | exact ih0 _ _
   | exact ih1 _ _ _
   | exact ih2 _ _
   | exact ih3 _ _ _
   | exact nrzi_Encode.mono _ _ _
   | exact signalbenchlaw16_awake.mono _
   | exact signalbenchlaw16_tiny.mono _ _
   | exact signalbenchref16_Encode.mono _ _ _
   | exact LeO.none _
   | refine LeO.ite ?_ ?_
   | refine LeO.bind ?_ (fun _ => ?_)
  ·intro y0 y1 y2
   unfold signalbenchlaw16_NrziEncodes.j1
   repeat' first
   | (with_reducible exact ih0 _ _)
   | (with_reducible exact ih1 _ _ _)
   | (with_reducible exact ih2 _ _)
   | (with_reducible exact ih3 _ _ _)
   | (with_reducible exact nrzi_Encode.mono _ _ _)
   | (with_reducible exact signalbenchlaw16_awake.mono _)
   | (with_reducible exact signalbenchlaw16_tiny.mono _ _)
   | (with_reducible exact signalbenchref16_Encode.mono _ _ _)
   | (with_reducible exact LeO.refl _)
   | (with_reducible exact LeO.none _)
   | (with_reducible refine LeO.ite ?_ ?_)
   | (with_reducible refine LeO.bind ?_ (fun _ => ?_))
   | exact ih0 _ _
   | exact ih1 _ _ _
   | exact ih2 _ _
   | exact ih3 _ _ _
   | exact nrzi_Encode.mono _ _ _
   | exact signalbenchlaw16_awake.mono _
   | exact signalbenchlaw16_tiny.mono _ _
   | exact signalbenchref16_Encode.mono _ _ _
   | exact LeO.none _
   | refine LeO.ite ?_ ?_
   | refine LeO.bind ?_ (fun _ => ?_)
  ·intro y0 y1
   unfold signalbenchlaw16_NrziEncodes.j2
   repeat' first
   | (with_reducible exact ih0 _ _)
   | (with_reducible exact ih1 _ _ _)
   | (with_reducible exact ih2 _ _)
   | (with_reducible exact ih3 _ _ _)
   | (with_reducible exact nrzi_Encode.mono _ _ _)
   | (with_reducible exact signalbenchlaw16_awake.mono _)
   | (with_reducible exact signalbenchlaw16_tiny.mono _ _)
   | (with_reducible exact signalbenchref16_Encode.mono _ _ _)
   | (with_reducible exact LeO.refl _)
   | (with_reducible exact LeO.none _)
   | (with_reducible refine LeO.ite ?_ ?_)
   | (with_reducible refine LeO.bind ?_ (fun _ => ?_))
   | exact ih0 _ _
   | exact ih1 _ _ _
   | exact ih2 _ _
   | exact ih3 _ _ _
   | exact nrzi_Encode.mono _ _ _
   | exact signalbenchlaw16_awake.mono _
   | exact signalbenchlaw16_tiny.mono _ _
   | exact signalbenchref16_Encode.mono _ _ _
   | exact LeO.none _
   | refine LeO.ite ?_ ?_
   | refine LeO.bind ?_ (fun _ => ?_)
  ·intro y0 y1 y2
   unfold signalbenchlaw16_NrziEncodes.l0
   repeat' first
   | (with_reducible exact ih0 _ _)
   | (with_reducible exact ih1 _ _ _)
   | (with_reducible exact ih2 _ _)
   | (with_reducible exact ih3 _ _ _)
   | (with_reducible exact nrzi_Encode.mono _ _ _)
   | (with_reducible exact signalbenchlaw16_awake.mono _)
   | (with_reducible exact signalbenchlaw16_tiny.mono _ _)
   | (with_reducible exact signalbenchref16_Encode.mono _ _ _)
   | (with_reducible exact LeO.refl _)
   | (with_reducible exact LeO.none _)
   | (with_reducible refine LeO.ite ?_ ?_)
   | (with_reducible refine LeO.bind ?_ (fun _ => ?_))
   | exact ih0 _ _
   | exact ih1 _ _ _
   | exact ih2 _ _
   | exact ih3 _ _ _
   | exact nrzi_Encode.mono _ _ _
   | exact signalbenchlaw16_awake.mono _
   | exact signalbenchlaw16_tiny.mono _ _
   | exact signalbenchref16_Encode.mono _ _ _
   | exact LeO.none _
   | refine LeO.ite ?_ ?_
   | refine LeO.bind ?_ (fun _ => ?_)
theorem signalbenchlaw16_NrziEncodes.mono : ∀ a0 a1 k, LeO (signalbenchlaw16_NrziEncodes.f k a0 a1) (signalbenchlaw16_NrziEncodes.f (k + 1) a0 a1) := by
 intro a0 a1 k
 obtain ⟨ih0, ih1, ih2, ih3⟩ := signalbenchlaw16_NrziEncodes.mono_l k
 unfold signalbenchlaw16_NrziEncodes.f
 repeat' first
   | (with_reducible exact ih0 _ _)
   | (with_reducible exact ih1 _ _ _)
   | (with_reducible exact ih2 _ _)
   | (with_reducible exact ih3 _ _ _)
   | (with_reducible exact nrzi_Encode.mono _ _ _)
   | (with_reducible exact signalbenchlaw16_awake.mono _)
   | (with_reducible exact signalbenchlaw16_tiny.mono _ _)
   | (with_reducible exact signalbenchref16_Encode.mono _ _ _)
   | (with_reducible exact LeO.refl _)
   | (with_reducible exact LeO.none _)
   | (with_reducible refine LeO.ite ?_ ?_)
   | (with_reducible refine LeO.bind ?_ (fun _ => ?_))
   | exact ih0 _ _
   | exact ih1 _ _ _
   | exact ih2 _ _
   | exact ih3 _ _ _
   | exact nrzi_Encode.mono _ _ _
   | exact signalbenchlaw16_awake.mono _
   | exact signalbenchlaw16_tiny.mono _ _
   | exact signalbenchref16_Encode.mono _ _ _
   | exact LeO.none _
   | refine LeO.ite ?_ ?_
   | refine LeO.bind ?_ (fun _ => ?_)
set_option maxHeartbeats 8000000 in
set_option maxRecDepth 100000 in
theorem signalbenchlaw16_NrziEncodes.calls (k : Nat) (a0_0 : Bool) (A1 : Option Addr) (c1 : Nat) (l1 : List (S44)) (r : Bool) (w : World) (hr1 : Kd.C k44 w A1 l1.length l1) (hc1 : l1.length ≤ c1) (h : signalbenchlaw16_NrziEncodes.f k a0_0 l1 = some r) :
  Calls Try.prog 7 #[.agg #[.bool a0_0], .slice A1 l1.length c1] w fun e w' => e = .returned (.bool r) ∧ Below w.heap.size w w' := by
 have hu23 := Try.underlying23
 have hu44 := Try.underlying44
 have HR1 := Aside0.mk hr1
 have HC1 := Aside0.mk hc1
 clear hr1 hc1
 have HB := Aside0.mk (Below.refl w.heap.size w)
 have H : ((signalbenchlaw16_tiny.f k l1).bind fun t214 => (if t214 = true then (signalbenchlaw16_NrziEncodes.j0 k l1 a0_0) else ((signalbenchlaw16_awake.f k).bind fun t215 => (some t215)))) = some r := h
 clear h
 replace H := Option.bind_eq_some_iff.mp H
 obtain ⟨t214, A30, H⟩ := H
 replace H : (if t214 = true then (signalbenchlaw16_NrziEncodes.j0 k l1 a0_0) else ((signalbenchlaw16_awake.f k).bind fun t215 => (some t215))) = some r := H
 have A3 := Aside0.mk A30
 clear A30
 have HC4 := Aside0.mk H
 clear H
 go_enter Try.func7, Try.ntmps7
 go_upto_if 12 with (first | ((with_reducible refine gate_dst (N := 2) rfl ?_); (try (refine gate_guard (by first | rfl | (go_simp; done)) ?_; dsimp only)); refine box_event ?hg (N := 2) ?hd (cs := #[.bool a0_0]) (t := 23) ?hr ?_; (case hd => rfl); (case hg => rfl); (case hr => first | (go_simp; done) | (go_simp; rfl)); intro gb213 hg w5 hbox hb; have n0_ := Aside0.mk (below_step (hbw HB.out) hb); have n1_ := Aside0.mk (hbox); have n2_ := Aside0.mk ((by rw [hg]; exact (below_size (hbw HB.out)) : w.heap.size ≤ gb213)); have n3_ := Aside0.mk ((by rw [hg]; exact (below_size (hbw HB.out)) : w.heap.size ≤ gb213)); clear HB; have HB := n0_; have BK213 := n1_; have GW213 := n2_; have GE213 := n3_; clear n0_ n1_ n2_ n3_; clear hb hbox hg) | (go_at_call 19; (with_reducible refine (signalbenchlaw16_tiny.calls k _ _ l1 t214 _ ?side1 ?side2 A3.out).mono ?_); (case side1 => repeat (first | exact (Kd.C_below HR1.out HB.out) | (with_reducible refine Kd.C_alloc ?_ _) | (with_reducible refine Kd.C_drewN ?_ _) | (with_reducible refine Kd.C_drew ?_))); (case side2 => exact HC1.out); rintro e w' ⟨rfl, ⟨nd, rfl⟩⟩; (try first | exact ⟨rfl, _, World.drewN_drewN _ _ _⟩ | exact ⟨rfl, _, Eq.trans (World.drewN_drewN _ _ _) (congrArg (World.drewN _) (Nat.add_assoc _ _ _))⟩)))
 repeat (go_quiet (first | ((with_reducible refine gate_dst (N := 2) rfl ?_); (try (refine gate_guard (by first | rfl | (go_simp; done)) ?_; dsimp only)); refine box_event ?hg (N := 2) ?hd (cs := #[.bool a0_0]) (t := 23) ?hr ?_; (case hd => rfl); (case hg => rfl); (case hr => first | (go_simp; done) | (go_simp; rfl)); intro gb213 hg w5 hbox hb; have n0_ := Aside0.mk (below_step (hbw HB.out) hb); have n1_ := Aside0.mk (hbox); have n2_ := Aside0.mk ((by rw [hg]; exact (below_size (hbw HB.out)) : w.heap.size ≤ gb213)); have n3_ := Aside0.mk ((by rw [hg]; exact (below_size (hbw HB.out)) : w.heap.size ≤ gb213)); clear HB; have HB := n0_; have BK213 := n1_; have GW213 := n2_; have GE213 := n3_; clear n0_ n1_ n2_ n3_; clear hb hbox hg) | (go_at_call 19; (with_reducible refine (signalbenchlaw16_tiny.calls k _ _ l1 t214 _ ?side1 ?side2 A3.out).mono ?_); (case side1 => repeat (first | exact (Kd.C_below HR1.out HB.out) | (with_reducible refine Kd.C_alloc ?_ _) | (with_reducible refine Kd.C_drewN ?_ _) | (with_reducible refine Kd.C_drew ?_))); (case side2 => exact HC1.out); rintro e w' ⟨rfl, ⟨nd, rfl⟩⟩; (try first | exact ⟨rfl, _, World.drewN_drewN _ _ _⟩ | exact ⟨rfl, _, Eq.trans (World.drewN_drewN _ _ _) (congrArg (World.drewN _) (Nat.add_assoc _ _ _))⟩))); go_upto_if 12 with (first | ((with_reducible refine gate_dst (N := 2) rfl ?_); (try (refine gate_guard (by first | rfl | (go_simp; done)) ?_; dsimp only)); refine box_event ?hg (N := 2) ?hd (cs := #[.bool a0_0]) (t := 23) ?hr ?_; (case hd => rfl); (case hg => rfl); (case hr => first | (go_simp; done) | (go_simp; rfl)); intro gb213 hg w5 hbox hb; have n0_ := Aside0.mk (below_step (hbw HB.out) hb); have n1_ := Aside0.mk (hbox); have n2_ := Aside0.mk ((by rw [hg]; exact (below_size (hbw HB.out)) : w.heap.size ≤ gb213)); have n3_ := Aside0.mk ((by rw [hg]; exact (below_size (hbw HB.out)) : w.heap.size ≤ gb213)); clear HB; have HB := n0_; have BK213 := n1_; have GW213 := n2_; have GE213 := n3_; clear n0_ n1_ n2_ n3_; clear hb hbox hg) | (go_at_call 19; (with_reducible refine (signalbenchlaw16_tiny.calls k _ _ l1 t214 _ ?side1 ?side2 A3.out).mono ?_); (case side1 => repeat (first | exact (Kd.C_below HR1.out HB.out) | (with_reducible refine Kd.C_alloc ?_ _) | (with_reducible refine Kd.C_drewN ?_ _) | (with_reducible refine Kd.C_drew ?_))); (case side2 => exact HC1.out); rintro e w' ⟨rfl, ⟨nd, rfl⟩⟩; (try first | exact ⟨rfl, _, World.drewN_drewN _ _ _⟩ | exact ⟨rfl, _, Eq.trans (World.drewN_drewN _ _ _) (congrArg (World.drewN _) (Nat.add_assoc _ _ _))⟩))))
 (try simp only [Act.put, List.setIfInBounds_toArray, List.set_cons_zero, List.set_cons_succ])
 go_cut [] (fun wc => ∃ (kq : Nat), Aside0 (signalbenchlaw16_NrziEncodes.j0 kq l1 a0_0 = some r) ∧ Aside0 (kq ≤ k) ∧ Aside0 (wc.heap[gb213]? = some (.cells #[.bool a0_0] 23 (0, 0))) ∧ Aside0 (Below w.heap.size w wc))
 case first =>
  have H := HC4.out
  clear HC4
  by_cases c6 : t214 = true
  ·subst c6
   have H1 : (signalbenchlaw16_NrziEncodes.j0 k l1 a0_0) = some r := by rw [if_pos rfl] at H; exact H
   clear H
   have H := H1
   clear H1
   have H' := Aside0.mk H
   clear H
   go_wp2
   repeat (go_quiet (fail); try go_wp2)
   go_meet
   case rel => exact ⟨_, H', ⟨by first | omega | exact Nat.le_refl _⟩, ⟨by (with_reducible repeat (first | refine blk_drewN ?_ _ | refine blk_drew ?_ | refine blk_alloc ?_ _)); exact BK213.out⟩, ⟨by repeat (first | (with_reducible first | exact HB.out | apply below_alloc | apply pw_below_drewN | apply below_drew1 | refine below_set ?_ GE213.out) | exact HB.out)⟩⟩
  ·replace c6 := Bool.eq_false_iff.mpr c6
   subst c6
   have H1 : ((signalbenchlaw16_awake.f k).bind fun t215 => (some t215)) = some r := by rw [if_neg (show ¬ (false = true) by decide)] at H; exact H
   clear H
   have H := H1
   clear H1
   replace H := Option.bind_eq_some_iff.mp H
   obtain ⟨t215, A70, H⟩ := H
   replace H : (some t215) = some r := H
   have A7 := Aside0.mk A70
   clear A70
   obtain rfl := Option.some.inj H
   go_wp2_with (first | (go_at_call 9; (with_reducible refine (signalbenchlaw16_awake.calls k  t215 _ A7.out).mono ?_); rintro e w8 ⟨rfl, hb⟩; have n0_ := Aside0.mk (blkb BK213.out hb); have n1_ := Aside0.mk (below_step (hbw HB.out) hb); clear BK213; clear HB; have BK213 := n0_; have HB := n1_; clear n0_ n1_; (try clear hb); (try clear hb2); (try clear hk); (try clear hi)))
   repeat (go_quiet (first | (go_at_call 9; (with_reducible refine (signalbenchlaw16_awake.calls k  t215 _ A7.out).mono ?_); rintro e w8 ⟨rfl, hb⟩; have n0_ := Aside0.mk (blkb BK213.out hb); have n1_ := Aside0.mk (below_step (hbw HB.out) hb); clear BK213; clear HB; have BK213 := n0_; have HB := n1_; clear n0_ n1_; (try clear hb); (try clear hb2); (try clear hk); (try clear hi))); try go_wp2_with (first | (go_at_call 9; (with_reducible refine (signalbenchlaw16_awake.calls k  t215 _ A7.out).mono ?_); rintro e w8 ⟨rfl, hb⟩; have n0_ := Aside0.mk (blkb BK213.out hb); have n1_ := Aside0.mk (below_step (hbw HB.out) hb); clear BK213; clear HB; have BK213 := n0_; have HB := n1_; clear n0_ n1_; (try clear hb); (try clear hb2); (try clear hk); (try clear hi))))
   go_ret
   exact ⟨by first | rfl | (simp [errW_none, errW_some] <;> rfl) | (simp [*, errW_none, errW_some] <;> rfl), by repeat (first | (with_reducible first | exact HB.out | apply below_alloc | apply pw_below_drewN | apply below_drew1 | refine below_set ?_ GE213.out) | exact HB.out)⟩
 case rest =>
  clear HC4
  try clear c1
  try clear p2
  try clear c6
  try clear c7
  obtain ⟨kq, HA, HJ3, BK213, HB⟩ := hcut
  cases kq with
  | zero => exact absurd HA.out (by simp [signalbenchlaw16_NrziEncodes.j0])
  | succ kj3 =>
   have H := HA.out
   clear HA
   simp only [signalbenchlaw16_NrziEncodes.j0] at H
   replace H := Option.bind_eq_some_iff.mp H
   obtain ⟨⟨t216, t219⟩, A90, H⟩ := H
   replace H : ((signalbenchref16_Encode.f kj3 a0_0 l1).bind fun bt220 => (if t219 = bt220.2 then (if (t216.length : Int) = (bt220.1.length : Int) then ((nrzi_Check.f a0_0).bind fun t224 => (signalbenchlaw16_NrziEncodes.j1 kj3 t216 bt220.1 (t224 != 0))) else (signalbenchlaw16_NrziEncodes.j1 kj3 t216 bt220.1 true)) else (signalbenchlaw16_NrziEncodes.j1 kj3 t216 bt220.1 true))) = some r := H
   have A9 := Aside0.mk A90
   clear A90
   replace H := Option.bind_eq_some_iff.mp H
   obtain ⟨⟨t220, t223⟩, A100, H⟩ := H
   replace H : (if t219 = t223 then (if (t216.length : Int) = (t220.length : Int) then ((nrzi_Check.f a0_0).bind fun t224 => (signalbenchlaw16_NrziEncodes.j1 kj3 t216 t220 (t224 != 0))) else (signalbenchlaw16_NrziEncodes.j1 kj3 t216 t220 true)) else (signalbenchlaw16_NrziEncodes.j1 kj3 t216 t220 true)) = some r := H
   have A10 := Aside0.mk A100
   clear A100
   have HC11 := Aside0.mk H
   clear H
   have hcz12_0 : wc.cell? ⟨gb213, 0, none⟩ = some (.bool a0_0) := (blk_cell BK213.out 0).trans rfl
   have hfz12_0 := blk_frozen BK213.out 0
   go_upto_region 5 with (first | (go_at_call 20; (with_reducible refine (nrzi_Encode.calls kj3 a0_0 _ _ l1 t216 t219 _ ?side1 ?side2 A9.out).mono ?_); (case side1 => repeat (first | exact (Kd.C_below HR1.out HB.out) | (with_reducible refine Kd.C_alloc ?_ _) | (with_reducible refine Kd.C_drewN ?_ _) | (with_reducible refine Kd.C_drew ?_))); (case side2 => exact HC1.out); rintro e w13 ⟨v217, rfl, ho0, hb⟩; have n0_ := Aside0.mk (Kd.R_lower ho0 (below_size (hbw HB.out))); have n1_ := Aside0.mk (blkb BK213.out hb); have n2_ := Aside0.mk (below_step (hbw HB.out) hb); clear BK213; clear HB; have HO218 := n0_; have BK213 := n1_; have HB := n2_; clear n0_ n1_ n2_; (try clear hb); (try clear hb2); (try clear hk); (try clear hi); (try clear ho0); have hcz14_0 : w13.cell? ⟨gb213, 0, none⟩ = some (.bool a0_0) := (blk_cell BK213.out 0).trans rfl; have hfz14_0 := blk_frozen BK213.out 0) | (go_at_call 23; (with_reducible refine (signalbenchref16_Encode.calls kj3 a0_0 _ _ l1 t220 t223 _ ?side1 ?side2 A10.out).mono ?_); (case side1 => repeat (first | exact (Kd.C_below HR1.out HB.out) | (with_reducible refine Kd.C_alloc ?_ _) | (with_reducible refine Kd.C_drewN ?_ _) | (with_reducible refine Kd.C_drew ?_))); (case side2 => exact HC1.out); rintro e w15 ⟨v221, rfl, ho0, hb⟩; have n0_ := Aside0.mk (Kd.R_elder' (rkw HO218.out) (Kd.R_base ho0) hb); have n1_ := Aside0.mk (Kd.R_lower (Kd.R_new' ho0 (Kd.R_lt (rkw HO218.out))) (below_size (hbw HB.out))); have n2_ := Aside0.mk (blkb BK213.out hb); have n3_ := Aside0.mk (below_step (hbw HB.out) hb); clear HO218; clear BK213; clear HB; have HO218 := n0_; have HO222 := n1_; have BK213 := n2_; have HB := n3_; clear n0_ n1_ n2_ n3_; (try clear hb); (try clear hb2); (try clear hk); (try clear hi); (try clear ho0)))
   repeat (go_quiet (first | (go_at_call 20; (with_reducible refine (nrzi_Encode.calls kj3 a0_0 _ _ l1 t216 t219 _ ?side1 ?side2 A9.out).mono ?_); (case side1 => repeat (first | exact (Kd.C_below HR1.out HB.out) | (with_reducible refine Kd.C_alloc ?_ _) | (with_reducible refine Kd.C_drewN ?_ _) | (with_reducible refine Kd.C_drew ?_))); (case side2 => exact HC1.out); rintro e w13 ⟨v217, rfl, ho0, hb⟩; have n0_ := Aside0.mk (Kd.R_lower ho0 (below_size (hbw HB.out))); have n1_ := Aside0.mk (blkb BK213.out hb); have n2_ := Aside0.mk (below_step (hbw HB.out) hb); clear BK213; clear HB; have HO218 := n0_; have BK213 := n1_; have HB := n2_; clear n0_ n1_ n2_; (try clear hb); (try clear hb2); (try clear hk); (try clear hi); (try clear ho0); have hcz14_0 : w13.cell? ⟨gb213, 0, none⟩ = some (.bool a0_0) := (blk_cell BK213.out 0).trans rfl; have hfz14_0 := blk_frozen BK213.out 0) | (go_at_call 23; (with_reducible refine (signalbenchref16_Encode.calls kj3 a0_0 _ _ l1 t220 t223 _ ?side1 ?side2 A10.out).mono ?_); (case side1 => repeat (first | exact (Kd.C_below HR1.out HB.out) | (with_reducible refine Kd.C_alloc ?_ _) | (with_reducible refine Kd.C_drewN ?_ _) | (with_reducible refine Kd.C_drew ?_))); (case side2 => exact HC1.out); rintro e w15 ⟨v221, rfl, ho0, hb⟩; have n0_ := Aside0.mk (Kd.R_elder' (rkw HO218.out) (Kd.R_base ho0) hb); have n1_ := Aside0.mk (Kd.R_lower (Kd.R_new' ho0 (Kd.R_lt (rkw HO218.out))) (below_size (hbw HB.out))); have n2_ := Aside0.mk (blkb BK213.out hb); have n3_ := Aside0.mk (below_step (hbw HB.out) hb); clear HO218; clear BK213; clear HB; have HO218 := n0_; have HO222 := n1_; have BK213 := n2_; have HB := n3_; clear n0_ n1_ n2_ n3_; (try clear hb); (try clear hb2); (try clear hk); (try clear hi); (try clear ho0))); go_upto_region 5 with (first | (go_at_call 20; (with_reducible refine (nrzi_Encode.calls kj3 a0_0 _ _ l1 t216 t219 _ ?side1 ?side2 A9.out).mono ?_); (case side1 => repeat (first | exact (Kd.C_below HR1.out HB.out) | (with_reducible refine Kd.C_alloc ?_ _) | (with_reducible refine Kd.C_drewN ?_ _) | (with_reducible refine Kd.C_drew ?_))); (case side2 => exact HC1.out); rintro e w13 ⟨v217, rfl, ho0, hb⟩; have n0_ := Aside0.mk (Kd.R_lower ho0 (below_size (hbw HB.out))); have n1_ := Aside0.mk (blkb BK213.out hb); have n2_ := Aside0.mk (below_step (hbw HB.out) hb); clear BK213; clear HB; have HO218 := n0_; have BK213 := n1_; have HB := n2_; clear n0_ n1_ n2_; (try clear hb); (try clear hb2); (try clear hk); (try clear hi); (try clear ho0); have hcz14_0 : w13.cell? ⟨gb213, 0, none⟩ = some (.bool a0_0) := (blk_cell BK213.out 0).trans rfl; have hfz14_0 := blk_frozen BK213.out 0) | (go_at_call 23; (with_reducible refine (signalbenchref16_Encode.calls kj3 a0_0 _ _ l1 t220 t223 _ ?side1 ?side2 A10.out).mono ?_); (case side1 => repeat (first | exact (Kd.C_below HR1.out HB.out) | (with_reducible refine Kd.C_alloc ?_ _) | (with_reducible refine Kd.C_drewN ?_ _) | (with_reducible refine Kd.C_drew ?_))); (case side2 => exact HC1.out); rintro e w15 ⟨v221, rfl, ho0, hb⟩; have n0_ := Aside0.mk (Kd.R_elder' (rkw HO218.out) (Kd.R_base ho0) hb); have n1_ := Aside0.mk (Kd.R_lower (Kd.R_new' ho0 (Kd.R_lt (rkw HO218.out))) (below_size (hbw HB.out))); have n2_ := Aside0.mk (blkb BK213.out hb); have n3_ := Aside0.mk (below_step (hbw HB.out) hb); clear HO218; clear BK213; clear HB; have HO218 := n0_; have HO222 := n1_; have BK213 := n2_; have HB := n3_; clear n0_ n1_ n2_ n3_; (try clear hb); (try clear hb2); (try clear hk); (try clear hi); (try clear ho0))))
   (try simp only [Act.put, List.setIfInBounds_toArray, List.set_cons_zero, List.set_cons_succ])
   go_cut [40] (fun v40 wc => ∃ (kq : Nat) (x40_10 : Bool), v40 = .bool x40_10 ∧ Aside0 (signalbenchlaw16_NrziEncodes.j1 kq t216 t220 x40_10 = some r) ∧ Aside0 (kq ≤ kj3) ∧ Aside0 (Kd.R k44 44 wc w.heap.size (fun k_ => some k_ ≠ (v221 : Value).ownBlock) v217 t216) ∧ Aside0 (Kd.R k44 44 wc w.heap.size (fun k_ => some k_ ≠ (v217 : Value).ownBlock) v221 t220) ∧ Aside0 (wc.heap[gb213]? = some (.cells #[.bool a0_0] 23 (0, 0))) ∧ Aside0 (Below w.heap.size w wc))
   case first =>
    have H := HC11.out
    clear HC11
    by_cases c16 : t219 = t223
    ·rw [if_pos c16] at H
     have c16b0 : (t219 == t223) = true := beq_iff_eq.mpr c16
     have c16b1 : (t219 != t223) = false := bne_eq_false_iff_eq.mpr c16
     clear c16
     (first | rw [c16b0] | (simp only [i64_w, i32_w]; rw [c16b0]) | skip)
     by_cases c17 : (t216.length : Int) = (t220.length : Int)
     ·rw [if_pos c17] at H
      have c17b0 : ((t216.length : Int) == (t220.length : Int)) = true := beq_iff_eq.mpr c17
      have c17b1 : ((t216.length : Int) != (t220.length : Int)) = false := bne_eq_false_iff_eq.mpr c17
      have c17b2 : (t216.length == t220.length) = true := by first | simpa using c17 | (simp at c17 ⊢; omega)
      clear c17
      replace H := Option.bind_eq_some_iff.mp H
      obtain ⟨t224, A180, H⟩ := H
      replace H : (signalbenchlaw16_NrziEncodes.j1 kj3 t216 t220 (t224 != 0)) = some r := H
      have A18 := Aside0.mk A180
      clear A180
      have H' := Aside0.mk H
      clear H
      obtain ⟨Ao19, co19, eo19⟩ := Kd.R_slice HO218.out
      subst eo19
      obtain ⟨Ao20, co20, eo20⟩ := Kd.R_slice HO222.out
      subst eo20
      have hcz21_0 : w15.cell? ⟨gb213, 0, none⟩ = some (.bool a0_0) := (blk_cell BK213.out 0).trans rfl
      have hfz21_0 := blk_frozen BK213.out 0
      go_wp2_with (first | (go_at_call 24; (with_reducible refine (nrzi_Check.calls a0_0 t224 _ A18.out).mono ?_); rintro e w22 ⟨rfl, hb⟩; have n0_ := Aside0.mk (Kd.R_below (rkw HO218.out) hb); have n1_ := Aside0.mk (Kd.R_below (rkw HO222.out) hb); have n2_ := Aside0.mk (blkb BK213.out hb); have n3_ := Aside0.mk (below_step (hbw HB.out) hb); clear HO218; clear HO222; clear BK213; clear HB; have HO218 := n0_; have HO222 := n1_; have BK213 := n2_; have HB := n3_; clear n0_ n1_ n2_ n3_; (try clear hb); (try clear hb2); (try clear hk); (try clear hi)))
      repeat (go_quiet (first | (go_at_call 24; (with_reducible refine (nrzi_Check.calls a0_0 t224 _ A18.out).mono ?_); rintro e w22 ⟨rfl, hb⟩; have n0_ := Aside0.mk (Kd.R_below (rkw HO218.out) hb); have n1_ := Aside0.mk (Kd.R_below (rkw HO222.out) hb); have n2_ := Aside0.mk (blkb BK213.out hb); have n3_ := Aside0.mk (below_step (hbw HB.out) hb); clear HO218; clear HO222; clear BK213; clear HB; have HO218 := n0_; have HO222 := n1_; have BK213 := n2_; have HB := n3_; clear n0_ n1_ n2_ n3_; (try clear hb); (try clear hb2); (try clear hk); (try clear hi))); try go_wp2_with (first | (go_at_call 24; (with_reducible refine (nrzi_Check.calls a0_0 t224 _ A18.out).mono ?_); rintro e w22 ⟨rfl, hb⟩; have n0_ := Aside0.mk (Kd.R_below (rkw HO218.out) hb); have n1_ := Aside0.mk (Kd.R_below (rkw HO222.out) hb); have n2_ := Aside0.mk (blkb BK213.out hb); have n3_ := Aside0.mk (below_step (hbw HB.out) hb); clear HO218; clear HO222; clear BK213; clear HB; have HO218 := n0_; have HO222 := n1_; have BK213 := n2_; have HB := n3_; clear n0_ n1_ n2_ n3_; (try clear hb); (try clear hb2); (try clear hk); (try clear hi))))
      go_meet
      case rel => exact ⟨_, ((t224 != 0)), (by first | rfl | (simp; done) | (simp [*]; done)), H', ⟨by have := HJ3.out; first | omega | exact Nat.le_refl _⟩, ⟨by (with_reducible repeat (first | apply Kd.R_alloc | apply Kd.R_drewN | apply Kd.R_drew)); exact Kd.R_mono HO218.out (fun _ hk => hk.2)⟩, ⟨by (with_reducible repeat (first | apply Kd.R_alloc | apply Kd.R_drewN | apply Kd.R_drew)); exact Kd.R_mono HO222.out (fun _ hk => hk.2)⟩, ⟨by (with_reducible repeat (first | refine blk_drewN ?_ _ | refine blk_drew ?_ | refine blk_alloc ?_ _)); exact BK213.out⟩, ⟨by repeat (first | (with_reducible first | exact HB.out | apply below_alloc | apply pw_below_drewN | apply below_drew1 | refine below_set ?_ GE213.out) | exact HB.out)⟩⟩
     ·rw [if_neg c17] at H
      have c17b0 : ((t216.length : Int) == (t220.length : Int)) = false := beq_eq_false_iff_ne.mpr c17
      have c17b1 : ((t216.length : Int) != (t220.length : Int)) = true := bne_iff_ne.mpr c17
      have c17b2 : (t216.length == t220.length) = false := by first | simpa using c17 | (simp at c17 ⊢; omega)
      have H' := Aside0.mk H
      clear H
      obtain ⟨Ao23, co23, eo23⟩ := Kd.R_slice HO218.out
      subst eo23
      obtain ⟨Ao24, co24, eo24⟩ := Kd.R_slice HO222.out
      subst eo24
      go_wp2
      repeat (go_quiet (fail); try go_wp2)
      go_meet
      case rel => exact ⟨_, (true), (by first | rfl | (simp; done) | (simp [*]; done)), H', ⟨by have := HJ3.out; first | omega | exact Nat.le_refl _⟩, ⟨by (with_reducible repeat (first | apply Kd.R_alloc | apply Kd.R_drewN | apply Kd.R_drew)); exact Kd.R_mono HO218.out (fun _ hk => hk.2)⟩, ⟨by (with_reducible repeat (first | apply Kd.R_alloc | apply Kd.R_drewN | apply Kd.R_drew)); exact Kd.R_mono HO222.out (fun _ hk => hk.2)⟩, ⟨by (with_reducible repeat (first | refine blk_drewN ?_ _ | refine blk_drew ?_ | refine blk_alloc ?_ _)); exact BK213.out⟩, ⟨by repeat (first | (with_reducible first | exact HB.out | apply below_alloc | apply pw_below_drewN | apply below_drew1 | refine below_set ?_ GE213.out) | exact HB.out)⟩⟩
    ·rw [if_neg c16] at H
     have c16b0 : (t219 == t223) = false := beq_eq_false_iff_ne.mpr c16
     have c16b1 : (t219 != t223) = true := bne_iff_ne.mpr c16
     (first | rw [c16b0] | (simp only [i64_w, i32_w]; rw [c16b0]) | skip)
     have H' := Aside0.mk H
     clear H
     go_wp2
     repeat (go_quiet (fail); try go_wp2)
     go_meet
     case rel => exact ⟨_, (true), (by first | rfl | (simp; done) | (simp [*]; done)), H', ⟨by have := HJ3.out; first | omega | exact Nat.le_refl _⟩, ⟨by (with_reducible repeat (first | apply Kd.R_alloc | apply Kd.R_drewN | apply Kd.R_drew)); exact Kd.R_mono HO218.out (fun _ hk => hk.2)⟩, ⟨by (with_reducible repeat (first | apply Kd.R_alloc | apply Kd.R_drewN | apply Kd.R_drew)); exact Kd.R_mono HO222.out (fun _ hk => hk.2)⟩, ⟨by (with_reducible repeat (first | refine blk_drewN ?_ _ | refine blk_drew ?_ | refine blk_alloc ?_ _)); exact BK213.out⟩, ⟨by repeat (first | (with_reducible first | exact HB.out | apply below_alloc | apply pw_below_drewN | apply below_drew1 | refine below_set ?_ GE213.out) | exact HB.out)⟩⟩
   case rest =>
    clear HC11
    try clear c1
    try clear p2
    try clear c6
    try clear c7
    try clear c16
    try clear c16b0
    try clear c16b1
    try clear c17
    try clear c17b0
    try clear c17b1
    try clear c17b2
    try clear hcz12_0
    try clear hcz14_0
    try clear hcz21_0
    try clear hfz12_0
    try clear hfz14_0
    try clear hfz21_0
    try clear p2
    obtain ⟨kq, x40_10, rfl, HA, HJ10, HO_5, HO_7, BK213, HB⟩ := hcut
    cases kq with
    | zero => exact absurd HA.out (by simp [signalbenchlaw16_NrziEncodes.j1])
    | succ kj10 =>
     have H := HA.out
     clear HA
     simp only [signalbenchlaw16_NrziEncodes.j1] at H
     have HC25 := Aside0.mk H
     clear H
     go_upto_if 40 with (fail)
     repeat (go_quiet (fail); go_upto_if 40 with (fail))
     go_cut [] (fun wc => ∃ (kq : Nat), Aside0 (signalbenchlaw16_NrziEncodes.j2 kq t216 t220 = some r) ∧ Aside0 (kq ≤ kj10) ∧ Aside0 (Kd.R k44 44 wc w.heap.size (fun k_ => some k_ ≠ (v221 : Value).ownBlock) v217 t216) ∧ Aside0 (Kd.R k44 44 wc w.heap.size (fun k_ => some k_ ≠ (v217 : Value).ownBlock) v221 t220) ∧ Aside0 (wc.heap[gb213]? = some (.cells #[.bool a0_0] 23 (0, 0))) ∧ Aside0 (Below w.heap.size w wc))
     case first =>
      have H := HC25.out
      clear HC25
      by_cases c26 : x40_10 = true
      ·subst c26
       have H1 : (some false) = some r := by rw [if_pos rfl] at H; exact H
       clear H
       have H := H1
       clear H1
       obtain rfl := Option.some.inj H
       go_wp2
       repeat (go_quiet (fail); try go_wp2)
       go_ret
       exact ⟨by first | rfl | (simp [errW_none, errW_some] <;> rfl) | (simp [*, errW_none, errW_some] <;> rfl), by repeat (first | (with_reducible first | exact HB.out | apply below_alloc | apply pw_below_drewN | apply below_drew1 | refine below_set ?_ GE213.out) | exact HB.out)⟩
      ·replace c26 := Bool.eq_false_iff.mpr c26
       subst c26
       have H1 : (signalbenchlaw16_NrziEncodes.j2 kj10 t216 t220) = some r := by rw [if_neg (show ¬ (false = true) by decide)] at H; exact H
       clear H
       have H := H1
       clear H1
       have H' := Aside0.mk H
       clear H
       go_wp2
       repeat (go_quiet (fail); try go_wp2)
       go_meet
       case rel => exact ⟨_, H', ⟨by have := HJ3.out; have := HJ10.out; first | omega | exact Nat.le_refl _⟩, ⟨by (with_reducible repeat (first | apply Kd.R_alloc | apply Kd.R_drewN | apply Kd.R_drew)); exact HO_5.out⟩, ⟨by (with_reducible repeat (first | apply Kd.R_alloc | apply Kd.R_drewN | apply Kd.R_drew)); exact HO_7.out⟩, ⟨by (with_reducible repeat (first | refine blk_drewN ?_ _ | refine blk_drew ?_ | refine blk_alloc ?_ _)); exact BK213.out⟩, ⟨by repeat (first | (with_reducible first | exact HB.out | apply below_alloc | apply pw_below_drewN | apply below_drew1 | refine below_set ?_ GE213.out) | exact HB.out)⟩⟩
     case rest =>
      clear HC25
      try clear c1
      try clear c2
      try clear p2
      try clear c6
      try clear c7
      try clear c16
      try clear c16b0
      try clear c16b1
      try clear c17
      try clear c17b0
      try clear c17b1
      try clear c17b2
      try clear c26
      try clear hcz12_0
      try clear hcz14_0
      try clear hcz21_0
      try clear hfz12_0
      try clear hfz14_0
      try clear hfz21_0
      try clear p2
      obtain ⟨kq, HA, HJ24, HO_5, HO_7, BK213, HB⟩ := hcut
      cases kq with
      | zero => exact absurd HA.out (by simp [signalbenchlaw16_NrziEncodes.j2])
      | succ kj24 =>
       have H := HA.out
       clear HA
       simp only [signalbenchlaw16_NrziEncodes.j2] at H
       have H' := Aside0.mk H
       clear H
       go_wp2
       repeat (go_quiet (fail); try go_wp2)
       go_loopg [9] kj24 (fun kq v9 w' => ∃ (x9_4 : Int), v9 = .int .i64 x9_4 ∧ Aside0 (signalbenchlaw16_NrziEncodes.l0 kq t216 t220 x9_4 = some r) ∧ Aside0 (kq ≤ kj24) ∧ Aside0 (Kd.R k44 44 w' w.heap.size (fun k_ => some k_ ≠ (v221 : Value).ownBlock) v217 t216) ∧ Aside0 (Kd.R k44 44 w' w.heap.size (fun k_ => some k_ ≠ (v217 : Value).ownBlock) v221 t220) ∧ Aside0 (w'.heap[gb213]? = some (.cells #[.bool a0_0] 23 (0, 0))) ∧ Aside0 (Below w.heap.size w w'))
       case atStart => exact ⟨(0), (by first | rfl | (simp; done) | (simp [*]; done)), H', ⟨Nat.le_refl _⟩, ⟨by (with_reducible repeat (first | apply Kd.R_alloc | apply Kd.R_drewN | apply Kd.R_drew)); exact HO_5.out⟩, ⟨by (with_reducible repeat (first | apply Kd.R_alloc | apply Kd.R_drewN | apply Kd.R_drew)); exact HO_7.out⟩, ⟨by (with_reducible repeat (first | refine blk_drewN ?_ _ | refine blk_drew ?_ | refine blk_alloc ?_ _)); exact BK213.out⟩, ⟨by repeat (first | (with_reducible first | exact HB.out | apply below_alloc | apply pw_below_drewN | apply below_drew1 | refine below_set ?_ GE213.out) | exact HB.out)⟩⟩
       case round =>
        clear H'
        try clear c1
        try clear c2
        try clear p2
        try clear c6
        try clear c7
        try clear c16
        try clear c16b0
        try clear c16b1
        try clear c17
        try clear c17b0
        try clear c17b1
        try clear c17b2
        try clear c26
        try clear hcz12_0
        try clear hcz14_0
        try clear hcz21_0
        try clear hfz12_0
        try clear hfz14_0
        try clear hfz21_0
        try clear p2
        obtain ⟨x9_4, rfl, HA, HK4, HO_5, HO_7, BK213, HB⟩ := hrel
        cases gk with
        | zero => exact absurd HA.out (by simp [signalbenchlaw16_NrziEncodes.l0])
        | succ k4 =>
         have H := HA.out
         clear HA
         simp only [signalbenchlaw16_NrziEncodes.l0] at H
         by_cases c27 : x9_4 < (t220.length : Int)
         ·rw [if_pos c27] at H
          have c27b0 : decide (x9_4 < (t220.length : Int)) = true := decide_eq_true c27
          clear c27
          by_cases c28 : 0 ≤ x9_4
          ·rw [if_pos c28] at H
           have c28b0 : decide (0 ≤ x9_4) = true := decide_eq_true c28
           clear c28
           by_cases c29 : x9_4 < (t216.length : Int)
           ·rw [if_pos c29] at H
            have c29b0 : decide (x9_4 < (t216.length : Int)) = true := decide_eq_true c29
            clear c29
            by_cases c30 : (!(((rd_T44 t216 x9_4).f0) == ((rd_T44 t220 x9_4).f0)) || (!(((rd_T44 t216 x9_4).f1) == ((rd_T44 t220 x9_4).f1)) || (!(((rd_T44 t216 x9_4).f2) == ((rd_T44 t220 x9_4).f2)) || (!((((rd_T44 t216 x9_4).f3).toList) == (((rd_T44 t220 x9_4).f3).toList)) || (!(((rd_T44 t216 x9_4).f4) == ((rd_T44 t220 x9_4).f4))))))) = true
            ·rw [if_pos c30] at H
             have c30b0 : (!(((rd_T44 t216 x9_4).f0) == ((rd_T44 t220 x9_4).f0)) || (!(((rd_T44 t216 x9_4).f1) == ((rd_T44 t220 x9_4).f1)) || (!(((rd_T44 t216 x9_4).f2) == ((rd_T44 t220 x9_4).f2)) || (!((((rd_T44 t216 x9_4).f3).toList) == (((rd_T44 t220 x9_4).f3).toList)) || (!(((rd_T44 t216 x9_4).f4) == ((rd_T44 t220 x9_4).f4))))))) = true := c30
             (try (have c30b1 : ((rd_T44 t216 x9_4).f0 = ((rd_T44 t220 x9_4).f0) ∧ (rd_T44 t216 x9_4).f1 = ((rd_T44 t220 x9_4).f1) ∧ (rd_T44 t216 x9_4).f2 = ((rd_T44 t220 x9_4).f2) ∧ ((rd_T44 t216 x9_4).f3).toList = (((rd_T44 t220 x9_4).f3).toList) ∧ (rd_T44 t216 x9_4).f4 = ((rd_T44 t220 x9_4).f4)) = False := eq_false (by intro h_; have e_ := c30; simp [h_] at e_)))
             clear c30
             obtain rfl := Option.some.inj H
             obtain ⟨Ao31, co31, eo31⟩ := Kd.R_slice HO_7.out
             subst eo31
             obtain ⟨Ao32, co32, eo32⟩ := Kd.R_slice HO_5.out
             subst eo32
             have p225 : 0 ≤ (x9_4 : Int) := of_decide_eq_true (by first | (with_reducible assumption) | assumption)
             have q225 : x9_4 < (t216.length : Int) := of_decide_eq_true (by first | (with_reducible assumption) | assumption)
             obtain ⟨ad225, e225, hx225_0, hx225_1, hx225_2, hx225_3, hx225_4⟩ := at_T44 (Kd.R_reads' HO_5.out).2.2 x9_4 p225 q225
             cases e225
             replace p225 := eq_true p225
             replace q225 := eq_true q225
             have p226 : 0 ≤ (x9_4 : Int) := of_decide_eq_true (by first | (with_reducible assumption) | assumption)
             have q226 : x9_4 < (t220.length : Int) := of_decide_eq_true (by first | (with_reducible assumption) | assumption)
             obtain ⟨ad226, e226, hx226_0, hx226_1, hx226_2, hx226_3, hx226_4⟩ := at_T44 (Kd.R_reads' HO_7.out).2.2 x9_4 p226 q226
             cases e226
             replace p226 := eq_true p226
             replace q226 := eq_true q226
             go_wp2
             repeat (go_quiet (fail); try go_wp2)
             go_ret
             exact ⟨by first | rfl | (simp [errW_none, errW_some] <;> rfl) | (simp [*, errW_none, errW_some] <;> rfl), by repeat (first | (with_reducible first | exact HB.out | apply below_alloc | apply pw_below_drewN | apply below_drew1 | refine below_set ?_ GE213.out) | exact HB.out)⟩
            ·rw [if_neg c30] at H
             have c30b0 : (!(((rd_T44 t216 x9_4).f0) == ((rd_T44 t220 x9_4).f0)) || (!(((rd_T44 t216 x9_4).f1) == ((rd_T44 t220 x9_4).f1)) || (!(((rd_T44 t216 x9_4).f2) == ((rd_T44 t220 x9_4).f2)) || (!((((rd_T44 t216 x9_4).f3).toList) == (((rd_T44 t220 x9_4).f3).toList)) || (!(((rd_T44 t216 x9_4).f4) == ((rd_T44 t220 x9_4).f4))))))) = false := by simpa using c30
             (try (have c30b1 : ((rd_T44 t216 x9_4).f0 = ((rd_T44 t220 x9_4).f0) ∧ (rd_T44 t216 x9_4).f1 = ((rd_T44 t220 x9_4).f1) ∧ (rd_T44 t216 x9_4).f2 = ((rd_T44 t220 x9_4).f2) ∧ ((rd_T44 t216 x9_4).f3).toList = (((rd_T44 t220 x9_4).f3).toList) ∧ (rd_T44 t216 x9_4).f4 = ((rd_T44 t220 x9_4).f4)) = True := eq_true (by simpa using c30)))
             clear c30
             have H' := Aside0.mk H
             clear H
             obtain ⟨Ao33, co33, eo33⟩ := Kd.R_slice HO_7.out
             subst eo33
             obtain ⟨Ao34, co34, eo34⟩ := Kd.R_slice HO_5.out
             subst eo34
             have p225 : 0 ≤ (x9_4 : Int) := of_decide_eq_true (by first | (with_reducible assumption) | assumption)
             have q225 : x9_4 < (t216.length : Int) := of_decide_eq_true (by first | (with_reducible assumption) | assumption)
             obtain ⟨ad225, e225, hx225_0, hx225_1, hx225_2, hx225_3, hx225_4⟩ := at_T44 (Kd.R_reads' HO_5.out).2.2 x9_4 p225 q225
             cases e225
             replace p225 := eq_true p225
             replace q225 := eq_true q225
             have p226 : 0 ≤ (x9_4 : Int) := of_decide_eq_true (by first | (with_reducible assumption) | assumption)
             have q226 : x9_4 < (t220.length : Int) := of_decide_eq_true (by first | (with_reducible assumption) | assumption)
             obtain ⟨ad226, e226, hx226_0, hx226_1, hx226_2, hx226_3, hx226_4⟩ := at_T44 (Kd.R_reads' HO_7.out).2.2 x9_4 p226 q226
             cases e226
             replace p226 := eq_true p226
             replace q226 := eq_true q226
             go_wp2
             repeat (go_quiet (fail); try go_wp2)
             go_roundg k4
             case measure => have := HJ3.out; have := HJ10.out; have := HJ24.out; have := HK4.out; omega
             case rel => exact ⟨(wrap64 (x9_4 + 1)), (by first | rfl | (simp; done) | (simp [*]; done)), H', ⟨by have := HJ3.out; have := HJ10.out; have := HJ24.out; have := HK4.out; omega⟩, ⟨by (with_reducible repeat (first | apply Kd.R_alloc | apply Kd.R_drewN | apply Kd.R_drew)); exact HO_5.out⟩, ⟨by (with_reducible repeat (first | apply Kd.R_alloc | apply Kd.R_drewN | apply Kd.R_drew)); exact HO_7.out⟩, ⟨by (with_reducible repeat (first | refine blk_drewN ?_ _ | refine blk_drew ?_ | refine blk_alloc ?_ _)); exact BK213.out⟩, ⟨by repeat (first | (with_reducible first | exact HB.out | apply below_alloc | apply pw_below_drewN | apply below_drew1 | refine below_set ?_ GE213.out) | exact HB.out)⟩⟩
           ·rw [if_neg c29] at H
            exact absurd H (by simp)
          ·rw [if_neg c28] at H
           exact absurd H (by simp)
         ·rw [if_neg c27] at H
          have c27b0 : decide (x9_4 < (t220.length : Int)) = false := decide_eq_false c27
          clear c27
          replace H := Option.bind_eq_some_iff.mp H
          obtain ⟨t227, A350, H⟩ := H
          replace H : (some t227) = some r := H
          have A35 := Aside0.mk A350
          clear A350
          obtain rfl := Option.some.inj H
          obtain ⟨Ao36, co36, eo36⟩ := Kd.R_slice HO_7.out
          subst eo36
          go_wp2_with (first | (go_at_call 9; (with_reducible refine (signalbenchlaw16_awake.calls k4  t227 _ A35.out).mono ?_); rintro e w37 ⟨rfl, hb⟩; have n0_ := Aside0.mk (Kd.R_below (rkw HO_5.out) hb); have n1_ := Aside0.mk (Kd.R_below (rkw HO_7.out) hb); have n2_ := Aside0.mk (blkb BK213.out hb); have n3_ := Aside0.mk (below_step (hbw HB.out) hb); clear HO_5; clear HO_7; clear BK213; clear HB; have HO_5 := n0_; have HO_7 := n1_; have BK213 := n2_; have HB := n3_; clear n0_ n1_ n2_ n3_; (try clear hb); (try clear hb2); (try clear hk); (try clear hi)))
          repeat (go_quiet (first | (go_at_call 9; (with_reducible refine (signalbenchlaw16_awake.calls k4  t227 _ A35.out).mono ?_); rintro e w37 ⟨rfl, hb⟩; have n0_ := Aside0.mk (Kd.R_below (rkw HO_5.out) hb); have n1_ := Aside0.mk (Kd.R_below (rkw HO_7.out) hb); have n2_ := Aside0.mk (blkb BK213.out hb); have n3_ := Aside0.mk (below_step (hbw HB.out) hb); clear HO_5; clear HO_7; clear BK213; clear HB; have HO_5 := n0_; have HO_7 := n1_; have BK213 := n2_; have HB := n3_; clear n0_ n1_ n2_ n3_; (try clear hb); (try clear hb2); (try clear hk); (try clear hi))); try go_wp2_with (first | (go_at_call 9; (with_reducible refine (signalbenchlaw16_awake.calls k4  t227 _ A35.out).mono ?_); rintro e w37 ⟨rfl, hb⟩; have n0_ := Aside0.mk (Kd.R_below (rkw HO_5.out) hb); have n1_ := Aside0.mk (Kd.R_below (rkw HO_7.out) hb); have n2_ := Aside0.mk (blkb BK213.out hb); have n3_ := Aside0.mk (below_step (hbw HB.out) hb); clear HO_5; clear HO_7; clear BK213; clear HB; have HO_5 := n0_; have HO_7 := n1_; have BK213 := n2_; have HB := n3_; clear n0_ n1_ n2_ n3_; (try clear hb); (try clear hb2); (try clear hk); (try clear hi))))
          go_ret
          exact ⟨by first | rfl | (simp [errW_none, errW_some] <;> rfl) | (simp [*, errW_none, errW_some] <;> rfl), by repeat (first | (with_reducible first | exact HB.out | apply below_alloc | apply pw_below_drewN | apply below_drew1 | refine below_set ?_ GE213.out) | exact HB.out)⟩

/-- THE ONE PURE STATEMENT of signalbenchlaw16_NrziEncodes: yours. -/
def signalbenchlaw16_NrziEncodes.Pure : Prop := ∀ (a0_0 : Bool) (l1 : List (S44)), l1.length ≤ maxLen → l1.length * 48 ≤ 140737488351232 → (∀ x ∈ l1, (Lit.int .i64 x.f0).wf = true ∧ (Lit.int .i64 x.f1).wf = true ∧ (Lit.int .i64 x.f2).wf = true ∧ x.f3.size ≤ 140737488351232 ∧ (Lit.int .i64 x.f4).wf = true) → ∃ k, signalbenchlaw16_NrziEncodes.f k a0_0 l1 = some true
theorem signalbenchlaw16_NrziEncodes.walk (P : signalbenchlaw16_NrziEncodes.Pure) (a0_0 : Bool) (A1 : Option Addr) (c1 : Nat) (l1 : List (S44)) (w : World) (hr1 : Kd.C k44 w A1 l1.length l1) (hc1 : l1.length ≤ c1) (w0_ : l1.length ≤ maxLen) (w1_ : l1.length * 48 ≤ 140737488351232) (w2_ : (∀ x ∈ l1, (Lit.int .i64 x.f0).wf = true ∧ (Lit.int .i64 x.f1).wf = true ∧ (Lit.int .i64 x.f2).wf = true ∧ x.f3.size ≤ 140737488351232 ∧ (Lit.int .i64 x.f4).wf = true)) :
  Calls Try.prog 7 #[.agg #[.bool a0_0], .slice A1 l1.length c1] w fun e w' => e = .returned (.bool true) ∧ Below w.heap.size w w' := by
 obtain ⟨k, h⟩ := P a0_0 l1 w0_ w1_ w2_
 refine (signalbenchlaw16_NrziEncodes.calls k a0_0 A1 c1 l1 true w hr1 hc1 h).mono ?_
 rintro e w' ⟨rfl, hd⟩
 exact ⟨rfl, hd⟩

end Go.Proofs.Ytjgfhccibljkbaa.PNrziEncodes
