-- Written by a program of this session (wip/tools/pr.py), which calls the kit's print with changes of its own.
import Derived.Test.YtjgfhccibljkbaaPNrziEncodesx0
import Derived.Test.YtjgfhccibljkbaaPNrziEncodesx7
namespace Go.Proofs.Ytjgfhccibljkbaa.PNrziEncodes
open Go.RowKit Go.Proofs.YtjgfhccibljkbaaW.PrintWords Go.Proofs.YtjgfhccibljkbaaW.PrintLast Go.Proofs.YtjgfhccibljkbaaW.PrintMore
attribute [local go_sem] max2_int min2_int max_two min_two max_three min_three max_four min_four   -- for this text's walks alone
set_option linter.unusedVariables false
set_option linter.unusedSimpArgs false

/-! ### signalbenchref16_Encode: function 23 -/
mutual
def signalbenchref16_Encode.j0 : Nat → List (S44) → Bool → Option ((List (S44)) × Int)
 | 0, _, _ => none
 | k + 1, x1, x201000 => signalbenchref16_Encode.l0 k x1 (([] : List (S44))) true 0 x201000
def signalbenchref16_Encode.l0 : Nat → List (S44) → List (S44) → Bool → Int → Bool → Option ((List (S44)) × Int)
 | 0, _, _, _, _, _ => none
 | k + 1, x1, x6, x7, x8, x201000 => if x8 < (x1.length : Int) then (signalbenchref16_Encode.j2 k x1 x6 x7 x8 x201000) else (some (x6, 0))
def signalbenchref16_Encode.j2 : Nat → List (S44) → List (S44) → Bool → Int → Bool → Option ((List (S44)) × Int)
 | 0, _, _, _, _, _ => none
 | k + 1, x1, x6, x7, x8, x201000 => if 0 ≤ x8 then (if x8 < (x1.length : Int) then ((signalbenchref16_wrong.f k ((rd_T44 x1 x8).f0) ((rd_T44 x1 x8).f1) ((rd_T44 x1 x8).f2) ((rd_T44 x1 x8).f3) ((rd_T44 x1 x8).f4)).bind fun t205 => (if t205 = 0 then (signalbenchref16_Encode.j3 k x1 x6 x7 x8 x201000) else (some (([] : List (S44)), t205)))) else (none)) else (none)
def signalbenchref16_Encode.j3 : Nat → List (S44) → List (S44) → Bool → Int → Bool → Option ((List (S44)) × Int)
 | 0, _, _, _, _, _ => none
 | k + 1, x1, x6, x7, x8, x201000 => signalbenchref16_Encode.l1 k x1 x6 x7 x8 (⟨#[]⟩ : ByteArray) 0 x201000
def signalbenchref16_Encode.l1 : Nat → List (S44) → List (S44) → Bool → Int → ByteArray → Int → Bool → Option ((List (S44)) × Int)
 | 0, _, _, _, _, _, _, _ => none
 | k + 1, x1, x6, x7, x8, x10, x11, x201000 => if 0 ≤ x8 then (if x8 < (x1.length : Int) then (if x11 < (((rd_T44 x1 x8).f3).size : Int) then (if 0 ≤ x11 then (if (x7 != (((bt ((rd_T44 x1 x8).f3) x11) == 49) != x201000)) = true then (if x10.size + 1 ≤ 9223372036854775807 then (signalbenchref16_Encode.l1 k x1 x6 (x7 != (((bt ((rd_T44 x1 x8).f3) x11) == 49) != x201000)) x8 (x10 ++ (⟨#[49]⟩ : ByteArray)) (wrap64 (x11 + 1)) x201000) else (none)) else (if x10.size + 1 ≤ 9223372036854775807 then (signalbenchref16_Encode.l1 k x1 x6 (x7 != (((bt ((rd_T44 x1 x8).f3) x11) == 49) != x201000)) x8 (x10 ++ (⟨#[48]⟩ : ByteArray)) (wrap64 (x11 + 1)) x201000) else (none))) else (none)) else (if x6.length < 2932031007402 then (signalbenchref16_Encode.l0 k x1 (x6 ++ [(⟨(rd_T44 x1 x8).f0, 0, 0, x10, 0⟩ : S44)]) x7 (wrap64 (x8 + 1)) x201000) else (none))) else (none)) else (none)
end
def signalbenchref16_Encode.f (k : Nat) (a0_0 : Bool) (l1 : List (S44)) : Option ((List (S44)) × Int) := if (l1.length : Int) > 1024 then (some (([] : List (S44)), 6)) else (signalbenchref16_Encode.j0 k l1 a0_0)
theorem signalbenchref16_Encode.mono_l : ∀ k, (∀ y0 y1, LeO (signalbenchref16_Encode.j0 k y0 y1) (signalbenchref16_Encode.j0 (k + 1) y0 y1)) ∧ (∀ y0 y1 y2 y3 y4, LeO (signalbenchref16_Encode.l0 k y0 y1 y2 y3 y4) (signalbenchref16_Encode.l0 (k + 1) y0 y1 y2 y3 y4)) ∧ (∀ y0 y1 y2 y3 y4, LeO (signalbenchref16_Encode.j2 k y0 y1 y2 y3 y4) (signalbenchref16_Encode.j2 (k + 1) y0 y1 y2 y3 y4)) ∧ (∀ y0 y1 y2 y3 y4, LeO (signalbenchref16_Encode.j3 k y0 y1 y2 y3 y4) (signalbenchref16_Encode.j3 (k + 1) y0 y1 y2 y3 y4)) ∧ (∀ y0 y1 y2 y3 y4 y5 y6, LeO (signalbenchref16_Encode.l1 k y0 y1 y2 y3 y4 y5 y6) (signalbenchref16_Encode.l1 (k + 1) y0 y1 y2 y3 y4 y5 y6))
 | 0 => ⟨fun _ _ r h => by simp [signalbenchref16_Encode.j0] at h, fun _ _ _ _ _ r h => by simp [signalbenchref16_Encode.l0] at h, fun _ _ _ _ _ r h => by simp [signalbenchref16_Encode.j2] at h, fun _ _ _ _ _ r h => by simp [signalbenchref16_Encode.j3] at h, fun _ _ _ _ _ _ _ r h => by simp [signalbenchref16_Encode.l1] at h⟩
 | k + 1 => by
  obtain ⟨ih0, ih1, ih2, ih3, ih4⟩ := signalbenchref16_Encode.mono_l k
  refine ⟨?_, ?_, ?_, ?_, ?_⟩
  ·intro y0 y1
   unfold signalbenchref16_Encode.j0
   repeat' first
   | (with_reducible exact ih0 _ _)
   | (with_reducible exact ih1 _ _ _ _ _)
   | (with_reducible exact ih2 _ _ _ _ _)
   | (with_reducible exact ih3 _ _ _ _ _)
   | (with_reducible exact ih4 _ _ _ _ _ _ _)
   | (with_reducible exact signalbenchref16_wrong.mono _ _ _ _ _ _)
   | (with_reducible exact LeO.refl _)
   | (with_reducible exact LeO.none _)
   | (with_reducible refine LeO.ite ?_ ?_)
   | (with_reducible refine LeO.bind ?_ (fun _ => ?_))
   | exact ih0 _ _
   | exact ih1 _ _ _ _ _
   | exact ih2 _ _ _ _ _
   | exact ih3 _ _ _ _ _
   | exact ih4 _ _ _ _ _ _ _
   | exact signalbenchref16_wrong.mono _ _ _ _ _ _
   | exact LeO.none _
   | refine LeO.ite ?_ ?_
   | refine LeO.bind ?_ (fun _ => ?_)
  ·intro y0 y1 y2 y3 y4
   unfold signalbenchref16_Encode.l0
   repeat' first
   | (with_reducible exact ih0 _ _)
   | (with_reducible exact ih1 _ _ _ _ _)
   | (with_reducible exact ih2 _ _ _ _ _)
   | (with_reducible exact ih3 _ _ _ _ _)
   | (with_reducible exact ih4 _ _ _ _ _ _ _)
   | (with_reducible exact signalbenchref16_wrong.mono _ _ _ _ _ _)
   | (with_reducible exact LeO.refl _)
   | (with_reducible exact LeO.none _)
   | (with_reducible refine LeO.ite ?_ ?_)
   | (with_reducible refine LeO.bind ?_ (fun _ => ?_))
   | exact ih0 _ _
   | exact ih1 _ _ _ _ _
   | exact ih2 _ _ _ _ _
   | exact ih3 _ _ _ _ _
   | exact ih4 _ _ _ _ _ _ _
   | exact signalbenchref16_wrong.mono _ _ _ _ _ _
   | exact LeO.none _
   | refine LeO.ite ?_ ?_
   | refine LeO.bind ?_ (fun _ => ?_)
  ·intro y0 y1 y2 y3 y4
   unfold signalbenchref16_Encode.j2
   repeat' first
   | (with_reducible exact ih0 _ _)
   | (with_reducible exact ih1 _ _ _ _ _)
   | (with_reducible exact ih2 _ _ _ _ _)
   | (with_reducible exact ih3 _ _ _ _ _)
   | (with_reducible exact ih4 _ _ _ _ _ _ _)
   | (with_reducible exact signalbenchref16_wrong.mono _ _ _ _ _ _)
   | (with_reducible exact LeO.refl _)
   | (with_reducible exact LeO.none _)
   | (with_reducible refine LeO.ite ?_ ?_)
   | (with_reducible refine LeO.bind ?_ (fun _ => ?_))
   | exact ih0 _ _
   | exact ih1 _ _ _ _ _
   | exact ih2 _ _ _ _ _
   | exact ih3 _ _ _ _ _
   | exact ih4 _ _ _ _ _ _ _
   | exact signalbenchref16_wrong.mono _ _ _ _ _ _
   | exact LeO.none _
   | refine LeO.ite ?_ ?_
   | refine LeO.bind ?_ (fun _ => ?_)
  ·intro y0 y1 y2 y3 y4
   unfold signalbenchref16_Encode.j3
   repeat' first
   | (with_reducible exact ih0 _ _)
   | (with_reducible exact ih1 _ _ _ _ _)
   | (with_reducible exact ih2 _ _ _ _ _)
   | (with_reducible exact ih3 _ _ _ _ _)
   | (with_reducible exact ih4 _ _ _ _ _ _ _)
   | (with_reducible exact signalbenchref16_wrong.mono _ _ _ _ _ _)
   | (with_reducible exact LeO.refl _)
   | (with_reducible exact LeO.none _)
   | (with_reducible refine LeO.ite ?_ ?_)
   | (with_reducible refine LeO.bind ?_ (fun _ => ?_))
   | exact ih0 _ _
   | exact ih1 _ _ _ _ _
   | exact ih2 _ _ _ _ _
   | exact ih3 _ _ _ _ _
   | exact ih4 _ _ _ _ _ _ _
   | exact signalbenchref16_wrong.mono _ _ _ _ _ _
   | exact LeO.none _
   | refine LeO.ite ?_ ?_
   | refine LeO.bind ?_ (fun _ => ?_)
  ·intro y0 y1 y2 y3 y4 y5 y6
   unfold signalbenchref16_Encode.l1
   repeat' first
   | (with_reducible exact ih0 _ _)
   | (with_reducible exact ih1 _ _ _ _ _)
   | (with_reducible exact ih2 _ _ _ _ _)
   | (with_reducible exact ih3 _ _ _ _ _)
   | (with_reducible exact ih4 _ _ _ _ _ _ _)
   | (with_reducible exact signalbenchref16_wrong.mono _ _ _ _ _ _)
   | (with_reducible exact LeO.refl _)
   | (with_reducible exact LeO.none _)
   | (with_reducible refine LeO.ite ?_ ?_)
   | (with_reducible refine LeO.bind ?_ (fun _ => ?_))
   | exact ih0 _ _
   | exact ih1 _ _ _ _ _
   | exact ih2 _ _ _ _ _
   | exact ih3 _ _ _ _ _
   | exact ih4 _ _ _ _ _ _ _
   | exact signalbenchref16_wrong.mono _ _ _ _ _ _
   | exact LeO.none _
   | refine LeO.ite ?_ ?_
   | refine LeO.bind ?_ (fun _ => ?_)
theorem signalbenchref16_Encode.mono : ∀ a0 a1 k, LeO (signalbenchref16_Encode.f k a0 a1) (signalbenchref16_Encode.f (k + 1) a0 a1) := by
 intro a0 a1 k
 obtain ⟨ih0, ih1, ih2, ih3, ih4⟩ := signalbenchref16_Encode.mono_l k
 unfold signalbenchref16_Encode.f
 repeat' first
   | (with_reducible exact ih0 _ _)
   | (with_reducible exact ih1 _ _ _ _ _)
   | (with_reducible exact ih2 _ _ _ _ _)
   | (with_reducible exact ih3 _ _ _ _ _)
   | (with_reducible exact ih4 _ _ _ _ _ _ _)
   | (with_reducible exact signalbenchref16_wrong.mono _ _ _ _ _ _)
   | (with_reducible exact LeO.refl _)
   | (with_reducible exact LeO.none _)
   | (with_reducible refine LeO.ite ?_ ?_)
   | (with_reducible refine LeO.bind ?_ (fun _ => ?_))
   | exact ih0 _ _
   | exact ih1 _ _ _ _ _
   | exact ih2 _ _ _ _ _
   | exact ih3 _ _ _ _ _
   | exact ih4 _ _ _ _ _ _ _
   | exact signalbenchref16_wrong.mono _ _ _ _ _ _
   | exact LeO.none _
   | refine LeO.ite ?_ ?_
   | refine LeO.bind ?_ (fun _ => ?_)
set_option maxHeartbeats 8000000 in
set_option maxRecDepth 100000 in
theorem signalbenchref16_Encode.calls (k : Nat) (a0_0 : Bool) (A1 : Option Addr) (c1 : Nat) (l1 : List (S44)) (r1 : List (S44)) (r2 : Int) (w : World) (hr1 : Kd.C k44 w A1 l1.length l1) (hc1 : l1.length ≤ c1) (h : signalbenchref16_Encode.f k a0_0 l1 = some (r1, r2)) :
  Calls Try.prog 23 #[.agg #[.bool a0_0], .slice A1 l1.length c1] w fun e w' => ∃ v0_ : Value, e = .returned (.tuple #[v0_, .int .i64 r2]) ∧ Kd.R k44 44 w' w.heap.size (fun _ => True) v0_ r1 ∧ Below w.heap.size w w' := by
 have hu23 := Try.underlying23
 have hu44 := Try.underlying44
 have HR1 := Aside0.mk hr1
 have HC1 := Aside0.mk hc1
 clear hr1 hc1
 have HB := Aside0.mk (Below.refl w.heap.size w)
 have H : (if (l1.length : Int) > 1024 then (some (([] : List (S44)), 6)) else (signalbenchref16_Encode.j0 k l1 a0_0)) = some (r1, r2) := h
 clear h
 have HC3 := Aside0.mk H
 clear H
 go_enter Try.func23, Try.ntmps23
 go_upto_if 14 with (first | ((with_reducible refine gate_dst (N := 2) rfl ?_); refine box_event ?hg (N := 2) ?hd (cs := #[.bool a0_0]) (t := 23) ?hr ?_; (case hd => rfl); (case hg => rfl); (case hr => first | (go_simp; done) | (go_simp; rfl)); intro gb200 hg w4 hbox hb; have n0_ := Aside0.mk (below_step (hbw HB.out) hb); have n1_ := Aside0.mk (hbox); have n2_ := Aside0.mk ((by rw [hg]; exact (below_size (hbw HB.out)) : w.heap.size ≤ gb200)); have n3_ := Aside0.mk ((by rw [hg]; exact (below_size (hbw HB.out)) : w.heap.size ≤ gb200)); clear HB; have HB := n0_; have BK200 := n1_; have GW200 := n2_; have GE200 := n3_; clear n0_ n1_ n2_ n3_; clear hb hbox hg))
 repeat (go_quiet (first | ((with_reducible refine gate_dst (N := 2) rfl ?_); refine box_event ?hg (N := 2) ?hd (cs := #[.bool a0_0]) (t := 23) ?hr ?_; (case hd => rfl); (case hg => rfl); (case hr => first | (go_simp; done) | (go_simp; rfl)); intro gb200 hg w4 hbox hb; have n0_ := Aside0.mk (below_step (hbw HB.out) hb); have n1_ := Aside0.mk (hbox); have n2_ := Aside0.mk ((by rw [hg]; exact (below_size (hbw HB.out)) : w.heap.size ≤ gb200)); have n3_ := Aside0.mk ((by rw [hg]; exact (below_size (hbw HB.out)) : w.heap.size ≤ gb200)); clear HB; have HB := n0_; have BK200 := n1_; have GW200 := n2_; have GE200 := n3_; clear n0_ n1_ n2_ n3_; clear hb hbox hg)); go_upto_if 14 with (first | ((with_reducible refine gate_dst (N := 2) rfl ?_); refine box_event ?hg (N := 2) ?hd (cs := #[.bool a0_0]) (t := 23) ?hr ?_; (case hd => rfl); (case hg => rfl); (case hr => first | (go_simp; done) | (go_simp; rfl)); intro gb200 hg w4 hbox hb; have n0_ := Aside0.mk (below_step (hbw HB.out) hb); have n1_ := Aside0.mk (hbox); have n2_ := Aside0.mk ((by rw [hg]; exact (below_size (hbw HB.out)) : w.heap.size ≤ gb200)); have n3_ := Aside0.mk ((by rw [hg]; exact (below_size (hbw HB.out)) : w.heap.size ≤ gb200)); clear HB; have HB := n0_; have BK200 := n1_; have GW200 := n2_; have GE200 := n3_; clear n0_ n1_ n2_ n3_; clear hb hbox hg)))
 (try simp only [Act.put, List.setIfInBounds_toArray, List.set_cons_zero, List.set_cons_succ])
 go_cut [] (fun wc => ∃ (kq : Nat), Aside0 (signalbenchref16_Encode.j0 kq l1 a0_0 = some (r1, r2)) ∧ Aside0 (kq ≤ k) ∧ Aside0 (wc.heap[gb200]? = some (.cells #[.bool a0_0] 23 (0, 0))) ∧ Aside0 (Below w.heap.size w wc))
 case first =>
  have H := HC3.out
  clear HC3
  by_cases c5 : (l1.length : Int) > 1024
  ·rw [if_pos c5] at H
   have c5b0 : decide (1024 < (l1.length : Int)) = true := decide_eq_true c5
   have c5b1 : decide (1024 < l1.length) = true := decide_eq_true (by omega)
   clear c5
   (first | rw [c5b0] | (simp only [i64_w, i32_w]; rw [c5b0]) | skip)
   simp only [Option.some.injEq, Prod.mk.injEq] at H
   obtain ⟨rfl, rfl⟩ := H
   go_wp2
   repeat (go_quiet (fail); try go_wp2)
   go_ret2
   exact ⟨_, by first | rfl | (simp [errW_none, errW_some] <;> rfl) | (simp [*, errW_none, errW_some] <;> rfl), by first | exact Kd.R_nil _ _ _ _ _ | exact Kd.N_nil _ _ _ _ _ | exact Kd.V_nil _ _ _ _ _ | exact Kd.Q_nil _ _ _ _ _ | exact Kd.S_nil _ _ _ _ _, by repeat (first | (with_reducible first | exact HB.out | apply below_alloc | apply pw_below_drewN | apply below_drew1 | refine below_set ?_ GE200.out) | exact HB.out)⟩
  ·rw [if_neg c5] at H
   have c5b0 : decide (1024 < (l1.length : Int)) = false := decide_eq_false c5
   have c5b1 : decide (1024 < l1.length) = false := decide_eq_false (by omega)
   clear c5
   (first | rw [c5b0] | (simp only [i64_w, i32_w]; rw [c5b0]) | skip)
   have H' := Aside0.mk H
   clear H
   go_wp2
   repeat (go_quiet (fail); try go_wp2)
   go_meet
   case rel => exact ⟨_, H', ⟨by first | omega | exact Nat.le_refl _⟩, ⟨by (with_reducible repeat (first | refine blk_drewN ?_ _ | refine blk_drew ?_ | refine blk_alloc ?_ _)); exact BK200.out⟩, ⟨by repeat (first | (with_reducible first | exact HB.out | apply below_alloc | apply pw_below_drewN | apply below_drew1 | refine below_set ?_ GE200.out) | exact HB.out)⟩⟩
 case rest =>
  clear HC3
  try clear c1
  try clear c2
  try clear p2
  try clear c5
  try clear c5b0
  try clear c5b1
  obtain ⟨kq, HA, HJ2, BK200, HB⟩ := hcut
  cases kq with
  | zero => exact absurd HA.out (by simp [signalbenchref16_Encode.j0])
  | succ kj2 =>
   have H := HA.out
   clear HA
   simp only [signalbenchref16_Encode.j0] at H
   obtain ⟨y201, hy201⟩ : ∃ y_ : List (S44), y_ = (([] : List (S44))) := ⟨_, rfl⟩
   replace H : (signalbenchref16_Encode.l0 kj2 l1 y201 true 0 a0_0) = some (r1, r2) := by first | (rw [hy201]; with_reducible exact H) | (have H2_ := (Option.bind_some _ _).symm.trans H; rw [hy201]; with_reducible exact H2_) | (have H2_ := (Option.bind_some _ _).symm.trans H; with_reducible exact H2_) | with_reducible exact H | (rw [hy201]; exact H) | exact H
   have Ny201 := Aside0.mk hy201
   clear hy201
   have H' := Aside0.mk H
   clear H
   go_wp2_with (first | ((with_reducible refine gate_dst (N := 15) rfl ?_); refine Kd.R_lit k44 _ 44 ?hg (N := 15) ?hd (xs := ([] : List (S44))) (inner := []) (ok := fun _ => True) (okp := fun _ => True) ?hr ?hp (fun _ hk => hk) trivial (Below.refl _ _) (Nat.le_refl _) (by simp) ?_; (case hd => rfl); (case hg => rfl); (case hr => first | (go_simp; done) | (go_simp; rfl)); (case hp => exact (Reps.none _ _)); intro v202 w6 ho7 hb hg_ hnew_; clear hg_ hnew_; (first | rw [← Ny201.out] at ho7 | (simp only [Int.reduceToNat] at ho7; rw [← Ny201.out] at ho7)); have n0_ := Aside0.mk (Kd.R_lower ho7 (below_size (hbw HB.out))); have n1_ := Aside0.mk (blkb BK200.out hb); have n2_ := Aside0.mk (below_step (hbw HB.out) hb); clear BK200; clear HB; have HO203 := n0_; have BK200 := n1_; have HB := n2_; clear n0_ n1_ n2_; clear hb ho7))
   repeat (go_quiet (first | ((with_reducible refine gate_dst (N := 15) rfl ?_); refine Kd.R_lit k44 _ 44 ?hg (N := 15) ?hd (xs := ([] : List (S44))) (inner := []) (ok := fun _ => True) (okp := fun _ => True) ?hr ?hp (fun _ hk => hk) trivial (Below.refl _ _) (Nat.le_refl _) (by simp) ?_; (case hd => rfl); (case hg => rfl); (case hr => first | (go_simp; done) | (go_simp; rfl)); (case hp => exact (Reps.none _ _)); intro v202 w6 ho7 hb hg_ hnew_; clear hg_ hnew_; (first | rw [← Ny201.out] at ho7 | (simp only [Int.reduceToNat] at ho7; rw [← Ny201.out] at ho7)); have n0_ := Aside0.mk (Kd.R_lower ho7 (below_size (hbw HB.out))); have n1_ := Aside0.mk (blkb BK200.out hb); have n2_ := Aside0.mk (below_step (hbw HB.out) hb); clear BK200; clear HB; have HO203 := n0_; have BK200 := n1_; have HB := n2_; clear n0_ n1_ n2_; clear hb ho7)); try go_wp2_with (first | ((with_reducible refine gate_dst (N := 15) rfl ?_); refine Kd.R_lit k44 _ 44 ?hg (N := 15) ?hd (xs := ([] : List (S44))) (inner := []) (ok := fun _ => True) (okp := fun _ => True) ?hr ?hp (fun _ hk => hk) trivial (Below.refl _ _) (Nat.le_refl _) (by simp) ?_; (case hd => rfl); (case hg => rfl); (case hr => first | (go_simp; done) | (go_simp; rfl)); (case hp => exact (Reps.none _ _)); intro v202 w6 ho7 hb hg_ hnew_; clear hg_ hnew_; (first | rw [← Ny201.out] at ho7 | (simp only [Int.reduceToNat] at ho7; rw [← Ny201.out] at ho7)); have n0_ := Aside0.mk (Kd.R_lower ho7 (below_size (hbw HB.out))); have n1_ := Aside0.mk (blkb BK200.out hb); have n2_ := Aside0.mk (below_step (hbw HB.out) hb); clear BK200; clear HB; have HO203 := n0_; have BK200 := n1_; have HB := n2_; clear n0_ n1_ n2_; clear hb ho7)))
   go_loopg [6, 7, 8] kj2 (fun kq v6 v7 v8 w' => ∃ (x6_2 : List (S44)) (x7_2 : Bool) (x8_2 : Int), v7 = .bool x7_2 ∧ v8 = .int .i64 x8_2 ∧ Aside0 (signalbenchref16_Encode.l0 kq l1 x6_2 x7_2 x8_2 a0_0 = some (r1, r2)) ∧ Aside0 (kq ≤ kj2) ∧ Aside0 (Kd.R k44 44 w' w.heap.size (fun _ => True) v6 x6_2) ∧ Aside0 (w'.heap[gb200]? = some (.cells #[.bool a0_0] 23 (0, 0))) ∧ Aside0 (Below w.heap.size w w'))
   case atStart => exact ⟨(y201), (true), (0), (by first | rfl | (simp; done) | (simp [*]; done)), (by first | rfl | (simp; done) | (simp [*]; done)), H', ⟨Nat.le_refl _⟩, ⟨by (with_reducible repeat (first | apply Kd.R_alloc | apply Kd.R_drewN | apply Kd.R_drew)); exact HO203.out⟩, ⟨by (with_reducible repeat (first | refine blk_drewN ?_ _ | refine blk_drew ?_ | refine blk_alloc ?_ _)); exact BK200.out⟩, ⟨by repeat (first | (with_reducible first | exact HB.out | apply below_alloc | apply pw_below_drewN | apply below_drew1 | refine below_set ?_ GE200.out) | exact HB.out)⟩⟩
   case round =>
    clear H'
    try clear c1
    try clear c2
    try clear p2
    try clear c5
    try clear c5b0
    try clear c5b1
    try clear p2
    obtain ⟨x6_2, x7_2, x8_2, rfl, rfl, HA, HK2, HO_6, BK200, HB⟩ := hrel
    cases gk with
    | zero => exact absurd HA.out (by simp [signalbenchref16_Encode.l0])
    | succ k2 =>
     have H := HA.out
     clear HA
     simp only [signalbenchref16_Encode.l0] at H
     have HC8 := Aside0.mk H
     clear H
     go_upto_if 19 with (fail)
     repeat (go_quiet (fail); go_upto_if 19 with (fail))
     go_cut [] (fun wc => ∃ (kq : Nat), Aside0 (signalbenchref16_Encode.j2 kq l1 x6_2 x7_2 x8_2 a0_0 = some (r1, r2)) ∧ Aside0 (kq ≤ k2) ∧ Aside0 (Kd.R k44 44 wc w.heap.size (fun _ => True) u6 x6_2) ∧ Aside0 (wc.heap[gb200]? = some (.cells #[.bool a0_0] 23 (0, 0))) ∧ Aside0 (Below w.heap.size w wc))
     case first =>
      have H := HC8.out
      clear HC8
      by_cases c9 : x8_2 < (l1.length : Int)
      ·rw [if_pos c9] at H
       have c9b0 : decide (x8_2 < (l1.length : Int)) = true := decide_eq_true c9
       clear c9
       (first | rw [c9b0] | (simp only [i64_w, i32_w]; rw [c9b0]) | skip)
       have H' := Aside0.mk H
       clear H
       go_wp2
       repeat (go_quiet (fail); try go_wp2)
       go_meet
       case rel => exact ⟨_, H', ⟨by have := HJ2.out; have := HK2.out; first | omega | exact Nat.le_refl _⟩, ⟨by (with_reducible repeat (first | apply Kd.R_alloc | apply Kd.R_drewN | apply Kd.R_drew)); exact HO_6.out⟩, ⟨by (with_reducible repeat (first | refine blk_drewN ?_ _ | refine blk_drew ?_ | refine blk_alloc ?_ _)); exact BK200.out⟩, ⟨by repeat (first | (with_reducible first | exact HB.out | apply below_alloc | apply pw_below_drewN | apply below_drew1 | refine below_set ?_ GE200.out) | exact HB.out)⟩⟩
      ·rw [if_neg c9] at H
       have c9b0 : decide (x8_2 < (l1.length : Int)) = false := decide_eq_false c9
       clear c9
       (first | rw [c9b0] | (simp only [i64_w, i32_w]; rw [c9b0]) | skip)
       simp only [Option.some.injEq, Prod.mk.injEq] at H
       obtain ⟨rfl, rfl⟩ := H
       go_wp2
       repeat (go_quiet (fail); try go_wp2)
       go_ret2
       exact ⟨_, by first | rfl | (simp [errW_none, errW_some] <;> rfl) | (simp [*, errW_none, errW_some] <;> rfl), by (with_reducible repeat (first | apply Kd.R_alloc | apply Kd.R_drewN | apply Kd.R_drew)); exact HO_6.out, by repeat (first | (with_reducible first | exact HB.out | apply below_alloc | apply pw_below_drewN | apply below_drew1 | refine below_set ?_ GE200.out) | exact HB.out)⟩
     case rest =>
      clear HC8
      try clear c1
      try clear c2
      try clear p2
      try clear c5
      try clear c5b0
      try clear c5b1
      try clear c9
      try clear c9b0
      try clear p2
      obtain ⟨kq, HA, HJ7, HO_6, BK200, HB⟩ := hcut
      cases kq with
      | zero => exact absurd HA.out (by simp [signalbenchref16_Encode.j2])
      | succ kj7 =>
       have H := HA.out
       clear HA
       simp only [signalbenchref16_Encode.j2] at H
       by_cases c10 : 0 ≤ x8_2
       ·rw [if_pos c10] at H
        have c10b0 : decide (0 ≤ x8_2) = true := decide_eq_true c10
        clear c10
        by_cases c11 : x8_2 < (l1.length : Int)
        ·rw [if_pos c11] at H
         have c11b0 : decide (x8_2 < (l1.length : Int)) = true := decide_eq_true c11
         clear c11
         replace H := Option.bind_eq_some_iff.mp H
         obtain ⟨t205, A120, H⟩ := H
         replace H : (if t205 = 0 then (signalbenchref16_Encode.j3 kj7 l1 x6_2 x7_2 x8_2 a0_0) else (some (([] : List (S44)), t205))) = some (r1, r2) := H
         have A12 := Aside0.mk A120
         clear A120
         have HC13 := Aside0.mk H
         clear H
         have p204 : 0 ≤ (x8_2 : Int) := of_decide_eq_true (by first | (with_reducible assumption) | assumption)
         have q204 : x8_2 < (l1.length : Int) := of_decide_eq_true (by first | (with_reducible assumption) | assumption)
         obtain ⟨ad204, e204, hx204_0, hx204_1, hx204_2, hx204_3, hx204_4⟩ := at_T44 HR1.out x8_2 p204 q204
         cases e204
         replace hx204_0 := (HB.out.cell (World.block_lt_of_cell? w _ hx204_0)).trans hx204_0
         replace hx204_1 := (HB.out.cell (World.block_lt_of_cell? w _ hx204_1)).trans hx204_1
         replace hx204_2 := (HB.out.cell (World.block_lt_of_cell? w _ hx204_2)).trans hx204_2
         replace hx204_3 := (HB.out.cell (World.block_lt_of_cell? w _ hx204_3)).trans hx204_3
         replace hx204_4 := (HB.out.cell (World.block_lt_of_cell? w _ hx204_4)).trans hx204_4
         replace p204 := eq_true p204
         replace q204 := eq_true q204
         go_upto_if 28 with (first | (go_at_call 30; (with_reducible refine (signalbenchref16_wrong.calls kj7 ((rd_T44 l1 x8_2).f0) ((rd_T44 l1 x8_2).f1) ((rd_T44 l1 x8_2).f2) ((rd_T44 l1 x8_2).f3) ((rd_T44 l1 x8_2).f4) t205 _ A12.out).mono ?_); rintro e w14 ⟨rfl, hb⟩; have n0_ := Aside0.mk (Kd.R_below (rkw HO_6.out) hb); have n1_ := Aside0.mk (blkb BK200.out hb); have n2_ := Aside0.mk (below_step (hbw HB.out) hb); clear HO_6; clear BK200; clear HB; have HO_6 := n0_; have BK200 := n1_; have HB := n2_; clear n0_ n1_ n2_; (try clear hb); (try clear hb2); (try clear hk); (try clear hi)))
         repeat (go_quiet (first | (go_at_call 30; (with_reducible refine (signalbenchref16_wrong.calls kj7 ((rd_T44 l1 x8_2).f0) ((rd_T44 l1 x8_2).f1) ((rd_T44 l1 x8_2).f2) ((rd_T44 l1 x8_2).f3) ((rd_T44 l1 x8_2).f4) t205 _ A12.out).mono ?_); rintro e w14 ⟨rfl, hb⟩; have n0_ := Aside0.mk (Kd.R_below (rkw HO_6.out) hb); have n1_ := Aside0.mk (blkb BK200.out hb); have n2_ := Aside0.mk (below_step (hbw HB.out) hb); clear HO_6; clear BK200; clear HB; have HO_6 := n0_; have BK200 := n1_; have HB := n2_; clear n0_ n1_ n2_; (try clear hb); (try clear hb2); (try clear hk); (try clear hi))); go_upto_if 28 with (first | (go_at_call 30; (with_reducible refine (signalbenchref16_wrong.calls kj7 ((rd_T44 l1 x8_2).f0) ((rd_T44 l1 x8_2).f1) ((rd_T44 l1 x8_2).f2) ((rd_T44 l1 x8_2).f3) ((rd_T44 l1 x8_2).f4) t205 _ A12.out).mono ?_); rintro e w14 ⟨rfl, hb⟩; have n0_ := Aside0.mk (Kd.R_below (rkw HO_6.out) hb); have n1_ := Aside0.mk (blkb BK200.out hb); have n2_ := Aside0.mk (below_step (hbw HB.out) hb); clear HO_6; clear BK200; clear HB; have HO_6 := n0_; have BK200 := n1_; have HB := n2_; clear n0_ n1_ n2_; (try clear hb); (try clear hb2); (try clear hk); (try clear hi))))
         (try simp only [Act.put, List.setIfInBounds_toArray, List.set_cons_zero, List.set_cons_succ])
         go_cut [] (fun wc => ∃ (kq : Nat), Aside0 (signalbenchref16_Encode.j3 kq l1 x6_2 x7_2 x8_2 a0_0 = some (r1, r2)) ∧ Aside0 (kq ≤ kj7) ∧ Aside0 (Kd.R k44 44 wc w.heap.size (fun _ => True) u6 x6_2) ∧ Aside0 (wc.heap[gb200]? = some (.cells #[.bool a0_0] 23 (0, 0))) ∧ Aside0 (Below w.heap.size w wc))
         case first =>
          have H := HC13.out
          clear HC13
          by_cases c15 : t205 = 0
          ·rw [if_pos c15] at H
           have c15b0 : (t205 == 0) = true := beq_iff_eq.mpr c15
           have c15b1 : (t205 != 0) = false := bne_eq_false_iff_eq.mpr c15
           clear c15
           (first | rw [c15b0] | (simp only [i64_w, i32_w]; rw [c15b0]) | skip)
           have H' := Aside0.mk H
           clear H
           go_wp2
           repeat (go_quiet (fail); try go_wp2)
           go_meet
           case rel => exact ⟨_, H', ⟨by have := HJ2.out; have := HK2.out; have := HJ7.out; first | omega | exact Nat.le_refl _⟩, ⟨by (with_reducible repeat (first | apply Kd.R_alloc | apply Kd.R_drewN | apply Kd.R_drew)); exact HO_6.out⟩, ⟨by (with_reducible repeat (first | refine blk_drewN ?_ _ | refine blk_drew ?_ | refine blk_alloc ?_ _)); exact BK200.out⟩, ⟨by repeat (first | (with_reducible first | exact HB.out | apply below_alloc | apply pw_below_drewN | apply below_drew1 | refine below_set ?_ GE200.out) | exact HB.out)⟩⟩
          ·rw [if_neg c15] at H
           have c15b0 : (t205 == 0) = false := beq_eq_false_iff_ne.mpr c15
           have c15b1 : (t205 != 0) = true := bne_iff_ne.mpr c15
           (first | rw [c15b0] | (simp only [i64_w, i32_w]; rw [c15b0]) | skip)
           simp only [Option.some.injEq, Prod.mk.injEq] at H
           obtain ⟨rfl, rfl⟩ := H
           go_wp2
           repeat (go_quiet (fail); try go_wp2)
           go_ret2
           exact ⟨_, by first | rfl | (simp [errW_none, errW_some] <;> rfl) | (simp [*, errW_none, errW_some] <;> rfl), by first | exact Kd.R_nil _ _ _ _ _ | exact Kd.N_nil _ _ _ _ _ | exact Kd.V_nil _ _ _ _ _ | exact Kd.Q_nil _ _ _ _ _ | exact Kd.S_nil _ _ _ _ _, by repeat (first | (with_reducible first | exact HB.out | apply below_alloc | apply pw_below_drewN | apply below_drew1 | refine below_set ?_ GE200.out) | exact HB.out)⟩
         case rest =>
          clear HC13
          try clear c1
          try clear c2
          try clear p2
          try clear q2
          try clear hx2
          try clear c5
          try clear c5b0
          try clear c5b1
          try clear c9
          try clear c9b0
          try clear c10
          try clear c10b0
          try clear c11
          try clear c11b0
          try clear c15
          try clear c15b0
          try clear c15b1
          try clear hx204_0
          try clear hx204_1
          try clear hx204_2
          try clear hx204_3
          try clear hx204_4
          try clear p2
          try clear p204
          try clear q204
          obtain ⟨kq, HA, HJ12, HO_6, BK200, HB⟩ := hcut
          cases kq with
          | zero => exact absurd HA.out (by simp [signalbenchref16_Encode.j3])
          | succ kj12 =>
           have H := HA.out
           clear HA
           simp only [signalbenchref16_Encode.j3] at H
           have H' := Aside0.mk H
           clear H
           go_wp2
           repeat (go_quiet (fail); try go_wp2)
           go_loopg [7, 10, 11] kj12 (fun kq v7 v10 v11 w' => ∃ (x7_5 : Bool) (x10_5 : ByteArray) (x11_5 : Int), v7 = .bool x7_5 ∧ v10 = .string x10_5 ∧ v11 = .int .i64 x11_5 ∧ Aside0 (signalbenchref16_Encode.l1 kq l1 x6_2 x7_5 x8_2 x10_5 x11_5 a0_0 = some (r1, r2)) ∧ Aside0 (kq ≤ kj12) ∧ Aside0 (Kd.R k44 44 w' w.heap.size (fun _ => True) u6 x6_2) ∧ Aside0 (w'.heap[gb200]? = some (.cells #[.bool a0_0] 23 (0, 0))) ∧ Aside0 (Below w.heap.size w w'))
           case atStart => exact ⟨(x7_2), ((⟨#[]⟩ : ByteArray)), (0), (by first | rfl | (simp; done) | (simp [*]; done)), (by first | rfl | (simp; done) | (simp [*]; done)), (by first | rfl | (simp; done) | (simp [*]; done)), H', ⟨Nat.le_refl _⟩, ⟨by (with_reducible repeat (first | apply Kd.R_alloc | apply Kd.R_drewN | apply Kd.R_drew)); exact HO_6.out⟩, ⟨by (with_reducible repeat (first | refine blk_drewN ?_ _ | refine blk_drew ?_ | refine blk_alloc ?_ _)); exact BK200.out⟩, ⟨by repeat (first | (with_reducible first | exact HB.out | apply below_alloc | apply pw_below_drewN | apply below_drew1 | refine below_set ?_ GE200.out) | exact HB.out)⟩⟩
           case round =>
            clear H'
            try clear c1
            try clear c2
            try clear p2
            try clear q2
            try clear hx2
            try clear c5
            try clear c5b0
            try clear c5b1
            try clear c9
            try clear c9b0
            try clear c10
            try clear c10b0
            try clear c11
            try clear c11b0
            try clear c15
            try clear c15b0
            try clear c15b1
            try clear hx204_0
            try clear hx204_1
            try clear hx204_2
            try clear hx204_3
            try clear hx204_4
            try clear p2
            try clear p204
            try clear q2
            try clear q204
            obtain ⟨x7_5, x10_5, x11_5, rfl, rfl, rfl, HA, HK5, HO_6, BK200, HB⟩ := hrel
            cases gk with
            | zero => exact absurd HA.out (by simp [signalbenchref16_Encode.l1])
            | succ k5 =>
             have H := HA.out
             clear HA
             simp only [signalbenchref16_Encode.l1] at H
             by_cases c16 : 0 ≤ x8_2
             ·rw [if_pos c16] at H
              have c16b0 : decide (0 ≤ x8_2) = true := decide_eq_true c16
              clear c16
              by_cases c17 : x8_2 < (l1.length : Int)
              ·rw [if_pos c17] at H
               have c17b0 : decide (x8_2 < (l1.length : Int)) = true := decide_eq_true c17
               clear c17
               by_cases c18 : x11_5 < (((rd_T44 l1 x8_2).f3).size : Int)
               ·rw [if_pos c18] at H
                have c18b0 : decide (x11_5 < (((rd_T44 l1 x8_2).f3).size : Int)) = true := decide_eq_true c18
                clear c18
                by_cases c19 : 0 ≤ x11_5
                ·rw [if_pos c19] at H
                 have c19b0 : decide (0 ≤ x11_5) = true := decide_eq_true c19
                 clear c19
                 by_cases c21 : (x7_5 != (((bt ((rd_T44 l1 x8_2).f3) x11_5) == 49) != a0_0)) = true
                 ·rw [if_pos c21] at H
                  have c21b0 : (x7_5 != (((bt ((rd_T44 l1 x8_2).f3) x11_5) == 49) != a0_0)) = true := c21
                  (try (have c21b1 : (!x7_5 == (!((bt ((rd_T44 l1 x8_2).f3) x11_5) == 49) == a0_0)) = true := by have h_ : (x7_5 != (((bt ((rd_T44 l1 x8_2).f3) x11_5) == 49) != a0_0)) = true := c21; simpa only [bneN] using h_))
                  (try (have c21b2 : decide (x7_5 = (((bt ((rd_T44 l1 x8_2).f3) x11_5) == 49) != a0_0)) = false := by simpa using c21))
                  (try (have c21b3 : (x7_5 == (((bt ((rd_T44 l1 x8_2).f3) x11_5) == 49) != a0_0)) = false := by simpa using c21))
                  (try (have c21b4 : ¬ (x7_5 = (((bt ((rd_T44 l1 x8_2).f3) x11_5) == 49) != a0_0)) := by simpa using c21))
                  clear c21
                  by_cases c22 : x10_5.size + 1 ≤ 9223372036854775807
                  ·rw [if_pos c22] at H
                   have c22b0 := eq_true c22
                   have c22b1 : decide (x10_5.size + 1 ≤ 9223372036854775807) = true := decide_eq_true c22
                   try have c22b2 : (9223372036854775807 < x10_5.size + 1) = False := eq_false (Nat.not_lt.2 c22)
                   have H' := Aside0.mk H
                   clear H
                   have p206 : 0 ≤ (x8_2 : Int) := of_decide_eq_true (by first | (with_reducible assumption) | assumption)
                   have q206 : x8_2 < (l1.length : Int) := of_decide_eq_true (by first | (with_reducible assumption) | assumption)
                   obtain ⟨ad206, e206, hx206_0, hx206_1, hx206_2, hx206_3, hx206_4⟩ := at_T44 HR1.out x8_2 p206 q206
                   obtain rfl : ad204 = ad206 := (by injection e206)
                   replace hx206_0 := (HB.out.cell (World.block_lt_of_cell? w _ hx206_0)).trans hx206_0
                   replace hx206_1 := (HB.out.cell (World.block_lt_of_cell? w _ hx206_1)).trans hx206_1
                   replace hx206_2 := (HB.out.cell (World.block_lt_of_cell? w _ hx206_2)).trans hx206_2
                   replace hx206_3 := (HB.out.cell (World.block_lt_of_cell? w _ hx206_3)).trans hx206_3
                   replace hx206_4 := (HB.out.cell (World.block_lt_of_cell? w _ hx206_4)).trans hx206_4
                   replace p206 := eq_true p206
                   replace q206 := eq_true q206
                   have p207 : 0 ≤ (x8_2 : Int) := of_decide_eq_true (by first | (with_reducible assumption) | assumption)
                   have q207 : x8_2 < (l1.length : Int) := of_decide_eq_true (by first | (with_reducible assumption) | assumption)
                   obtain ⟨ad207, e207, hx207_0, hx207_1, hx207_2, hx207_3, hx207_4⟩ := at_T44 HR1.out x8_2 p207 q207
                   obtain rfl : ad204 = ad207 := (by injection e207)
                   replace hx207_0 := (HB.out.cell (World.block_lt_of_cell? w _ hx207_0)).trans hx207_0
                   replace hx207_1 := (HB.out.cell (World.block_lt_of_cell? w _ hx207_1)).trans hx207_1
                   replace hx207_2 := (HB.out.cell (World.block_lt_of_cell? w _ hx207_2)).trans hx207_2
                   replace hx207_3 := (HB.out.cell (World.block_lt_of_cell? w _ hx207_3)).trans hx207_3
                   replace hx207_4 := (HB.out.cell (World.block_lt_of_cell? w _ hx207_4)).trans hx207_4
                   replace p207 := eq_true p207
                   replace q207 := eq_true q207
                   have p20 : 0 ≤ (x11_5 : Int) := of_decide_eq_true (by first | (with_reducible assumption) | assumption)
                   have q20 : x11_5 < (((rd_T44 l1 x8_2).f3).size : Int) := of_decide_eq_true (by first | (with_reducible assumption) | assumption)
                   have hx20 := bt_at ((rd_T44 l1 x8_2).f3) x11_5
                   replace p20 := eq_true p20
                   replace q20 := eq_true q20
                   have hcz23_0 : wr.cell? ⟨gb200, 0, none⟩ = some (.bool a0_0) := (blk_cell BK200.out 0).trans rfl
                   have hfz23_0 := blk_frozen BK200.out 0
                   go_wp2
                   repeat (go_quiet (fail); try go_wp2)
                   go_roundg k5
                   case measure => have := HJ2.out; have := HK2.out; have := HJ7.out; have := HJ12.out; have := HK5.out; omega
                   case rel => exact ⟨((x7_5 != (((bt ((rd_T44 l1 x8_2).f3) x11_5) == 49) != a0_0))), (x10_5 ++ (⟨#[49]⟩ : ByteArray)), (wrap64 (x11_5 + 1)), (by first | rfl | (simp; done) | (simp [*]; done)), (by first | rfl | (simp; done) | (simp [*]; done)), (by first | rfl | (simp; done) | (simp [*]; done)), H', ⟨by have := HJ2.out; have := HK2.out; have := HJ7.out; have := HJ12.out; have := HK5.out; omega⟩, ⟨by (with_reducible repeat (first | apply Kd.R_alloc | apply Kd.R_drewN | apply Kd.R_drew)); exact HO_6.out⟩, ⟨by (with_reducible repeat (first | refine blk_drewN ?_ _ | refine blk_drew ?_ | refine blk_alloc ?_ _)); exact BK200.out⟩, ⟨by repeat (first | (with_reducible first | exact HB.out | apply below_alloc | apply pw_below_drewN | apply below_drew1 | refine below_set ?_ GE200.out) | exact HB.out)⟩⟩
                  ·rw [if_neg c22] at H
                   exact absurd H (by simp)
                 ·rw [if_neg c21] at H
                  have c21b0 : (x7_5 != (((bt ((rd_T44 l1 x8_2).f3) x11_5) == 49) != a0_0)) = false := by simpa using c21
                  (try (have c21b1 : (!x7_5 == (!((bt ((rd_T44 l1 x8_2).f3) x11_5) == 49) == a0_0)) = false := by have h_ : (x7_5 != (((bt ((rd_T44 l1 x8_2).f3) x11_5) == 49) != a0_0)) = false := (by simpa using c21); simpa only [bneN] using h_))
                  (try (have c21b2 : decide (x7_5 = (((bt ((rd_T44 l1 x8_2).f3) x11_5) == 49) != a0_0)) = true := by simpa using c21))
                  (try (have c21b3 : (x7_5 == (((bt ((rd_T44 l1 x8_2).f3) x11_5) == 49) != a0_0)) = true := by simpa using c21))
                  clear c21
                  by_cases c24 : x10_5.size + 1 ≤ 9223372036854775807
                  ·rw [if_pos c24] at H
                   have c24b0 := eq_true c24
                   have c24b1 : decide (x10_5.size + 1 ≤ 9223372036854775807) = true := decide_eq_true c24
                   try have c24b2 : (9223372036854775807 < x10_5.size + 1) = False := eq_false (Nat.not_lt.2 c24)
                   have H' := Aside0.mk H
                   clear H
                   have p206 : 0 ≤ (x8_2 : Int) := of_decide_eq_true (by first | (with_reducible assumption) | assumption)
                   have q206 : x8_2 < (l1.length : Int) := of_decide_eq_true (by first | (with_reducible assumption) | assumption)
                   obtain ⟨ad206, e206, hx206_0, hx206_1, hx206_2, hx206_3, hx206_4⟩ := at_T44 HR1.out x8_2 p206 q206
                   obtain rfl : ad204 = ad206 := (by injection e206)
                   replace hx206_0 := (HB.out.cell (World.block_lt_of_cell? w _ hx206_0)).trans hx206_0
                   replace hx206_1 := (HB.out.cell (World.block_lt_of_cell? w _ hx206_1)).trans hx206_1
                   replace hx206_2 := (HB.out.cell (World.block_lt_of_cell? w _ hx206_2)).trans hx206_2
                   replace hx206_3 := (HB.out.cell (World.block_lt_of_cell? w _ hx206_3)).trans hx206_3
                   replace hx206_4 := (HB.out.cell (World.block_lt_of_cell? w _ hx206_4)).trans hx206_4
                   replace p206 := eq_true p206
                   replace q206 := eq_true q206
                   have p207 : 0 ≤ (x8_2 : Int) := of_decide_eq_true (by first | (with_reducible assumption) | assumption)
                   have q207 : x8_2 < (l1.length : Int) := of_decide_eq_true (by first | (with_reducible assumption) | assumption)
                   obtain ⟨ad207, e207, hx207_0, hx207_1, hx207_2, hx207_3, hx207_4⟩ := at_T44 HR1.out x8_2 p207 q207
                   obtain rfl : ad204 = ad207 := (by injection e207)
                   replace hx207_0 := (HB.out.cell (World.block_lt_of_cell? w _ hx207_0)).trans hx207_0
                   replace hx207_1 := (HB.out.cell (World.block_lt_of_cell? w _ hx207_1)).trans hx207_1
                   replace hx207_2 := (HB.out.cell (World.block_lt_of_cell? w _ hx207_2)).trans hx207_2
                   replace hx207_3 := (HB.out.cell (World.block_lt_of_cell? w _ hx207_3)).trans hx207_3
                   replace hx207_4 := (HB.out.cell (World.block_lt_of_cell? w _ hx207_4)).trans hx207_4
                   replace p207 := eq_true p207
                   replace q207 := eq_true q207
                   have p20 : 0 ≤ (x11_5 : Int) := of_decide_eq_true (by first | (with_reducible assumption) | assumption)
                   have q20 : x11_5 < (((rd_T44 l1 x8_2).f3).size : Int) := of_decide_eq_true (by first | (with_reducible assumption) | assumption)
                   have hx20 := bt_at ((rd_T44 l1 x8_2).f3) x11_5
                   replace p20 := eq_true p20
                   replace q20 := eq_true q20
                   have hcz25_0 : wr.cell? ⟨gb200, 0, none⟩ = some (.bool a0_0) := (blk_cell BK200.out 0).trans rfl
                   have hfz25_0 := blk_frozen BK200.out 0
                   go_wp2
                   repeat (go_quiet (fail); try go_wp2)
                   go_roundg k5
                   case measure => have := HJ2.out; have := HK2.out; have := HJ7.out; have := HJ12.out; have := HK5.out; omega
                   case rel => exact ⟨((x7_5 != (((bt ((rd_T44 l1 x8_2).f3) x11_5) == 49) != a0_0))), (x10_5 ++ (⟨#[48]⟩ : ByteArray)), (wrap64 (x11_5 + 1)), (by first | rfl | (simp; done) | (simp [*]; done)), (by first | rfl | (simp; done) | (simp [*]; done)), (by first | rfl | (simp; done) | (simp [*]; done)), H', ⟨by have := HJ2.out; have := HK2.out; have := HJ7.out; have := HJ12.out; have := HK5.out; omega⟩, ⟨by (with_reducible repeat (first | apply Kd.R_alloc | apply Kd.R_drewN | apply Kd.R_drew)); exact HO_6.out⟩, ⟨by (with_reducible repeat (first | refine blk_drewN ?_ _ | refine blk_drew ?_ | refine blk_alloc ?_ _)); exact BK200.out⟩, ⟨by repeat (first | (with_reducible first | exact HB.out | apply below_alloc | apply pw_below_drewN | apply below_drew1 | refine below_set ?_ GE200.out) | exact HB.out)⟩⟩
                  ·rw [if_neg c24] at H
                   exact absurd H (by simp)
                ·rw [if_neg c19] at H
                 exact absurd H (by simp)
               ·rw [if_neg c18] at H
                have c18b0 : decide (x11_5 < (((rd_T44 l1 x8_2).f3).size : Int)) = false := decide_eq_false c18
                clear c18
                by_cases c26 : x6_2.length < 2932031007402
                ·rw [if_pos c26] at H
                 have LMc26 := Aside0.mk c26
                 clear c26
                 obtain ⟨y209, hy209⟩ : ∃ y_ : List (S44), y_ = (x6_2 ++ [(⟨(rd_T44 l1 x8_2).f0, 0, 0, x10_5, 0⟩ : S44)]) := ⟨_, rfl⟩
                 replace H : (signalbenchref16_Encode.l0 k5 l1 y209 x7_5 (wrap64 (x8_2 + 1)) a0_0) = some (r1, r2) := by first | (rw [hy209]; with_reducible exact H) | (have H2_ := (Option.bind_some _ _).symm.trans H; rw [hy209]; with_reducible exact H2_) | (have H2_ := (Option.bind_some _ _).symm.trans H; with_reducible exact H2_) | with_reducible exact H | (rw [hy209]; exact H) | exact H
                 have Ny209 := Aside0.mk hy209
                 clear hy209
                 have H' := Aside0.mk H
                 clear H
                 have p206 : 0 ≤ (x8_2 : Int) := of_decide_eq_true (by first | (with_reducible assumption) | assumption)
                 have q206 : x8_2 < (l1.length : Int) := of_decide_eq_true (by first | (with_reducible assumption) | assumption)
                 obtain ⟨ad206, e206, hx206_0, hx206_1, hx206_2, hx206_3, hx206_4⟩ := at_T44 HR1.out x8_2 p206 q206
                 obtain rfl : ad204 = ad206 := (by injection e206)
                 replace hx206_0 := (HB.out.cell (World.block_lt_of_cell? w _ hx206_0)).trans hx206_0
                 replace hx206_1 := (HB.out.cell (World.block_lt_of_cell? w _ hx206_1)).trans hx206_1
                 replace hx206_2 := (HB.out.cell (World.block_lt_of_cell? w _ hx206_2)).trans hx206_2
                 replace hx206_3 := (HB.out.cell (World.block_lt_of_cell? w _ hx206_3)).trans hx206_3
                 replace hx206_4 := (HB.out.cell (World.block_lt_of_cell? w _ hx206_4)).trans hx206_4
                 replace p206 := eq_true p206
                 replace q206 := eq_true q206
                 have p208 : 0 ≤ (x8_2 : Int) := of_decide_eq_true (by first | (with_reducible assumption) | assumption)
                 have q208 : x8_2 < (l1.length : Int) := of_decide_eq_true (by first | (with_reducible assumption) | assumption)
                 obtain ⟨ad208, e208, hx208_0, hx208_1, hx208_2, hx208_3, hx208_4⟩ := at_T44 HR1.out x8_2 p208 q208
                 obtain rfl : ad204 = ad208 := (by injection e208)
                 replace hx208_0 := (HB.out.cell (World.block_lt_of_cell? w _ hx208_0)).trans hx208_0
                 replace hx208_1 := (HB.out.cell (World.block_lt_of_cell? w _ hx208_1)).trans hx208_1
                 replace hx208_2 := (HB.out.cell (World.block_lt_of_cell? w _ hx208_2)).trans hx208_2
                 replace hx208_3 := (HB.out.cell (World.block_lt_of_cell? w _ hx208_3)).trans hx208_3
                 replace hx208_4 := (HB.out.cell (World.block_lt_of_cell? w _ hx208_4)).trans hx208_4
                 replace p208 := eq_true p208
                 replace q208 := eq_true q208
                 go_wp2_with (first | ((with_reducible refine gate_builtin (b := .append) (xs := #[.tmp 58, .tmp 66]) rfl ?_); at_builtin; refine Kd.R_append k44 (w0 := w) w.heap.size rfl (.tmp 58) (.tmp 66) 38 44 (.agg #[(.int .i64 0), (.int .i64 0), (.int .i64 0), (.string ⟨#[]⟩), (.int .i64 0)]) 48 rfl Try.underlying38 info44 rfl (by decide) (by omega) u6 x6_2 (⟨(rd_T44 l1 x8_2).f0, 0, 0, x10_5, 0⟩ : S44) [.int .i64 ((rd_T44 l1 x8_2).f0), .int .i64 0, .int .i64 0, .string x10_5, .int .i64 0] (fun _ => True) (fun _ => False) rfl rfl ?aP (fun _ hk => hk.elim) ?aF ?aO ?aB ?aS ?aL ?_; (case aP => exact k44_mkM _ _ _ (⟨(rd_T44 l1 x8_2).f0, 0, 0, x10_5, 0⟩ : S44)); (case aB => exact (hbw HB.out)); (case aF => exact (fun _ _ => trivial)); (case aO => exact (rkw HO_6.out)); (case aS => exact (below_size (hbw HB.out))); (case aL => have := LMc26.out; omega); intro v210 w27 ho hb hg hat; rw [← Ny209.out] at ho; have n0_ := Aside0.mk (blkg BK200.out hg (Kd.R_ne HO_6.out BK200.out (by decide))); have n1_ := Aside0.mk (hb); have n2_ := Aside0.mk (ho); clear BK200; clear HB; clear HO_6; have BK200 := n0_; have HB := n1_; have HO211 := n2_; clear n0_ n1_ n2_; clear ho hb hg hat))
                 repeat (go_quiet (first | ((with_reducible refine gate_builtin (b := .append) (xs := #[.tmp 58, .tmp 66]) rfl ?_); at_builtin; refine Kd.R_append k44 (w0 := w) w.heap.size rfl (.tmp 58) (.tmp 66) 38 44 (.agg #[(.int .i64 0), (.int .i64 0), (.int .i64 0), (.string ⟨#[]⟩), (.int .i64 0)]) 48 rfl Try.underlying38 info44 rfl (by decide) (by omega) u6 x6_2 (⟨(rd_T44 l1 x8_2).f0, 0, 0, x10_5, 0⟩ : S44) [.int .i64 ((rd_T44 l1 x8_2).f0), .int .i64 0, .int .i64 0, .string x10_5, .int .i64 0] (fun _ => True) (fun _ => False) rfl rfl ?aP (fun _ hk => hk.elim) ?aF ?aO ?aB ?aS ?aL ?_; (case aP => exact k44_mkM _ _ _ (⟨(rd_T44 l1 x8_2).f0, 0, 0, x10_5, 0⟩ : S44)); (case aB => exact (hbw HB.out)); (case aF => exact (fun _ _ => trivial)); (case aO => exact (rkw HO_6.out)); (case aS => exact (below_size (hbw HB.out))); (case aL => have := LMc26.out; omega); intro v210 w27 ho hb hg hat; rw [← Ny209.out] at ho; have n0_ := Aside0.mk (blkg BK200.out hg (Kd.R_ne HO_6.out BK200.out (by decide))); have n1_ := Aside0.mk (hb); have n2_ := Aside0.mk (ho); clear BK200; clear HB; clear HO_6; have BK200 := n0_; have HB := n1_; have HO211 := n2_; clear n0_ n1_ n2_; clear ho hb hg hat)); try go_wp2_with (first | ((with_reducible refine gate_builtin (b := .append) (xs := #[.tmp 58, .tmp 66]) rfl ?_); at_builtin; refine Kd.R_append k44 (w0 := w) w.heap.size rfl (.tmp 58) (.tmp 66) 38 44 (.agg #[(.int .i64 0), (.int .i64 0), (.int .i64 0), (.string ⟨#[]⟩), (.int .i64 0)]) 48 rfl Try.underlying38 info44 rfl (by decide) (by omega) u6 x6_2 (⟨(rd_T44 l1 x8_2).f0, 0, 0, x10_5, 0⟩ : S44) [.int .i64 ((rd_T44 l1 x8_2).f0), .int .i64 0, .int .i64 0, .string x10_5, .int .i64 0] (fun _ => True) (fun _ => False) rfl rfl ?aP (fun _ hk => hk.elim) ?aF ?aO ?aB ?aS ?aL ?_; (case aP => exact k44_mkM _ _ _ (⟨(rd_T44 l1 x8_2).f0, 0, 0, x10_5, 0⟩ : S44)); (case aB => exact (hbw HB.out)); (case aF => exact (fun _ _ => trivial)); (case aO => exact (rkw HO_6.out)); (case aS => exact (below_size (hbw HB.out))); (case aL => have := LMc26.out; omega); intro v210 w27 ho hb hg hat; rw [← Ny209.out] at ho; have n0_ := Aside0.mk (blkg BK200.out hg (Kd.R_ne HO_6.out BK200.out (by decide))); have n1_ := Aside0.mk (hb); have n2_ := Aside0.mk (ho); clear BK200; clear HB; clear HO_6; have BK200 := n0_; have HB := n1_; have HO211 := n2_; clear n0_ n1_ n2_; clear ho hb hg hat)))
                 go_roundg k5
                 case measure => have := HJ2.out; have := HK2.out; have := HJ7.out; have := HJ12.out; have := HK5.out; omega
                 case rel => exact ⟨(y209), (x7_5), (wrap64 (x8_2 + 1)), (by first | rfl | (simp; done) | (simp [*]; done)), (by first | rfl | (simp; done) | (simp [*]; done)), H', ⟨by have := HJ2.out; have := HK2.out; have := HJ7.out; have := HJ12.out; have := HK5.out; omega⟩, ⟨by (with_reducible repeat (first | apply Kd.R_alloc | apply Kd.R_drewN | apply Kd.R_drew)); exact HO211.out⟩, ⟨by (with_reducible repeat (first | refine blk_drewN ?_ _ | refine blk_drew ?_ | refine blk_alloc ?_ _)); exact BK200.out⟩, ⟨by repeat (first | (with_reducible first | exact HB.out | apply below_alloc | apply pw_below_drewN | apply below_drew1 | refine below_set ?_ GE200.out) | exact HB.out)⟩⟩
                ·rw [if_neg c26] at H
                 exact absurd H (by simp)
              ·rw [if_neg c17] at H
               exact absurd H (by simp)
             ·rw [if_neg c16] at H
              exact absurd H (by simp)
        ·rw [if_neg c11] at H
         exact absurd H (by simp)
       ·rw [if_neg c10] at H
        exact absurd H (by simp)

/-! ### nrzi_Check: function 24 -/
def nrzi_Check.f (a0_0 : Bool) : Option (Int) := some 0
set_option maxHeartbeats 8000000 in
set_option maxRecDepth 100000 in
theorem nrzi_Check.calls (a0_0 : Bool) (r : Int) (w : World) (h : nrzi_Check.f a0_0 = some r) :
  Calls Try.prog 24 #[.agg #[.bool a0_0]] w fun e w' => e = .returned (.int .i64 r) ∧ Below w.heap.size w w' := by
 have hu23 := Try.underlying23
 have HB := Aside0.mk (Below.refl w.heap.size w)
 have H : (some 0) = some r := h
 clear h
 obtain rfl := Option.some.inj H
 go_enter Try.func24, Try.ntmps24
 go_wp2_with (first | ((with_reducible refine gate_dst (N := 1) rfl ?_); refine box_event ?hg (N := 1) ?hd (cs := #[.bool a0_0]) (t := 23) ?hr ?_; (case hd => rfl); (case hg => rfl); (case hr => first | (go_simp; done) | (go_simp; rfl)); intro gb212 hg w2 hbox hb; have n0_ := Aside0.mk (below_step (hbw HB.out) hb); have n1_ := Aside0.mk (hbox); have n2_ := Aside0.mk ((by rw [hg]; exact (below_size (hbw HB.out)) : w.heap.size ≤ gb212)); have n3_ := Aside0.mk ((by rw [hg]; exact (below_size (hbw HB.out)) : w.heap.size ≤ gb212)); clear HB; have HB := n0_; have BK212 := n1_; have GW212 := n2_; have GE212 := n3_; clear n0_ n1_ n2_ n3_; clear hb hbox hg))
 go_ret
 exact ⟨by first | rfl | (simp [errW_none, errW_some] <;> rfl) | (simp [*, errW_none, errW_some] <;> rfl), by repeat (first | (with_reducible first | exact HB.out | apply below_alloc | apply pw_below_drewN | apply below_drew1 | refine below_set ?_ GE212.out) | exact HB.out)⟩

end Go.Proofs.Ytjgfhccibljkbaa.PNrziEncodes
