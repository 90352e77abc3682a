-- Written by a program of this session (wip/tools/pr.py), which calls the kit's print with changes of its own.
import Derived.Test.YtjgfhccibljkbaaPNrziRoundTripsx0
namespace Go.Proofs.Ytjgfhccibljkbaa.PNrziRoundTrips
open Go.RowKit Go.Proofs.YtjgfhccibljkbaaW.PrintWords Go.Proofs.YtjgfhccibljkbaaW.PrintLast Go.Proofs.YtjgfhccibljkbaaW.PrintMore
attribute [local go_sem] max2_int min2_int max_two min_two max_three min_three max_four min_four   -- for this text's walks alone
set_option linter.unusedVariables false
set_option linter.unusedSimpArgs false

/-! ### signalbenchlaw16_ideal: function 21 -/
mutual
def signalbenchlaw16_ideal.l0 : Nat → List (S44) → List (S33) → Int → Int → Option ((List (S33)))
 | 0, _, _, _, _ => none
 | k + 1, x0, x3, x4, x5 => if x5 < (x0.length : Int) then (signalbenchlaw16_ideal.j1 k x0 x3 x4 x5) else (some x3)
def signalbenchlaw16_ideal.j1 : Nat → List (S44) → List (S33) → Int → Int → Option ((List (S33)))
 | 0, _, _, _, _ => none
 | k + 1, x0, x3, x4, x5 => if 0 ≤ x5 then (if x5 < (x0.length : Int) then (signalbenchlaw16_ideal.l1 k x0 x3 (wrap64 (x4 + ((rd_T44 x0 x5).f0))) x5 0) else (none)) else (none)
def signalbenchlaw16_ideal.l1 : Nat → List (S44) → List (S33) → Int → Int → Int → Option ((List (S33)))
 | 0, _, _, _, _, _ => none
 | k + 1, x0, x3, x4, x5, x6 => if 0 ≤ x5 then (if x5 < (x0.length : Int) then (if x6 < (((rd_T44 x0 x5).f3).size : Int) then (if 0 ≤ x6 then (if (bt ((rd_T44 x0 x5).f3) x6) = 49 then (if x3.length < 2199023255552 then (signalbenchlaw16_ideal.l1 k x0 (x3 ++ [(⟨2, x4, wrap64 (x4 + 1), 1, 0, (⟨#[]⟩ : ByteArray), 0⟩ : S33)]) (wrap64 (x4 + 1)) x5 (wrap64 (x6 + 1))) else (none)) else (if x3.length < 2199023255552 then (signalbenchlaw16_ideal.l1 k x0 (x3 ++ [(⟨2, x4, wrap64 (x4 + 1), 0, 0, (⟨#[]⟩ : ByteArray), 0⟩ : S33)]) (wrap64 (x4 + 1)) x5 (wrap64 (x6 + 1))) else (none))) else (none)) else (signalbenchlaw16_ideal.l0 k x0 x3 x4 (wrap64 (x5 + 1)))) else (none)) else (none)
end
def signalbenchlaw16_ideal.f (k : Nat) (l0 : List (S44)) : Option ((List (S33))) := signalbenchlaw16_ideal.l0 k l0 (([] : List (S33))) 0 0
theorem signalbenchlaw16_ideal.mono_l : ∀ k, (∀ y0 y1 y2 y3, LeO (signalbenchlaw16_ideal.l0 k y0 y1 y2 y3) (signalbenchlaw16_ideal.l0 (k + 1) y0 y1 y2 y3)) ∧ (∀ y0 y1 y2 y3, LeO (signalbenchlaw16_ideal.j1 k y0 y1 y2 y3) (signalbenchlaw16_ideal.j1 (k + 1) y0 y1 y2 y3)) ∧ (∀ y0 y1 y2 y3 y4, LeO (signalbenchlaw16_ideal.l1 k y0 y1 y2 y3 y4) (signalbenchlaw16_ideal.l1 (k + 1) y0 y1 y2 y3 y4))
 | 0 => ⟨fun _ _ _ _ r h => by simp [signalbenchlaw16_ideal.l0] at h, fun _ _ _ _ r h => by simp [signalbenchlaw16_ideal.j1] at h, fun _ _ _ _ _ r h => by simp [signalbenchlaw16_ideal.l1] at h⟩
 | k + 1 => by
  obtain ⟨ih0, ih1, ih2⟩ := signalbenchlaw16_ideal.mono_l k
  refine ⟨?_, ?_, ?_⟩
  ·intro y0 y1 y2 y3
   unfold signalbenchlaw16_ideal.l0
   repeat' first
   | (with_reducible exact ih0 _ _ _ _)
   | (with_reducible exact ih1 _ _ _ _)
   | (with_reducible exact ih2 _ _ _ _ _)
   | (with_reducible exact LeO.refl _)
   | (with_reducible exact LeO.none _)
   | (with_reducible refine LeO.ite ?_ ?_)
   | (with_reducible refine LeO.bind ?_ (fun _ => ?_))
   | exact ih0 _ _ _ _
   | exact ih1 _ _ _ _
   | exact ih2 _ _ _ _ _
   | exact LeO.none _
   | refine LeO.ite ?_ ?_
   | refine LeO.bind ?_ (fun _ => ?_)
  ·intro y0 y1 y2 y3
   unfold signalbenchlaw16_ideal.j1
   repeat' first
   | (with_reducible exact ih0 _ _ _ _)
   | (with_reducible exact ih1 _ _ _ _)
   | (with_reducible exact ih2 _ _ _ _ _)
   | (with_reducible exact LeO.refl _)
   | (with_reducible exact LeO.none _)
   | (with_reducible refine LeO.ite ?_ ?_)
   | (with_reducible refine LeO.bind ?_ (fun _ => ?_))
   | exact ih0 _ _ _ _
   | exact ih1 _ _ _ _
   | exact ih2 _ _ _ _ _
   | exact LeO.none _
   | refine LeO.ite ?_ ?_
   | refine LeO.bind ?_ (fun _ => ?_)
  ·intro y0 y1 y2 y3 y4
   unfold signalbenchlaw16_ideal.l1
   repeat' first
   | (with_reducible exact ih0 _ _ _ _)
   | (with_reducible exact ih1 _ _ _ _)
   | (with_reducible exact ih2 _ _ _ _ _)
   | (with_reducible exact LeO.refl _)
   | (with_reducible exact LeO.none _)
   | (with_reducible refine LeO.ite ?_ ?_)
   | (with_reducible refine LeO.bind ?_ (fun _ => ?_))
   | exact ih0 _ _ _ _
   | exact ih1 _ _ _ _
   | exact ih2 _ _ _ _ _
   | exact LeO.none _
   | refine LeO.ite ?_ ?_
   | refine LeO.bind ?_ (fun _ => ?_)
theorem signalbenchlaw16_ideal.mono : ∀ a0 k, LeO (signalbenchlaw16_ideal.f k a0) (signalbenchlaw16_ideal.f (k + 1) a0) := by
 intro a0 k
 obtain ⟨ih0, ih1, ih2⟩ := signalbenchlaw16_ideal.mono_l k
 unfold signalbenchlaw16_ideal.f
 repeat' first
   | (with_reducible exact ih0 _ _ _ _)
   | (with_reducible exact ih1 _ _ _ _)
   | (with_reducible exact ih2 _ _ _ _ _)
   | (with_reducible exact LeO.refl _)
   | (with_reducible exact LeO.none _)
   | (with_reducible refine LeO.ite ?_ ?_)
   | (with_reducible refine LeO.bind ?_ (fun _ => ?_))
   | exact ih0 _ _ _ _
   | exact ih1 _ _ _ _
   | exact ih2 _ _ _ _ _
   | exact LeO.none _
   | refine LeO.ite ?_ ?_
   | refine LeO.bind ?_ (fun _ => ?_)
set_option maxHeartbeats 8000000 in
set_option maxRecDepth 100000 in
theorem signalbenchlaw16_ideal.calls (k : Nat) (A0 : Option Addr) (c0 : Nat) (l0 : List (S44)) (r : List (S33)) (w : World) (hr0 : Kd.C k44 w A0 l0.length l0) (hc0 : l0.length ≤ c0) (h : signalbenchlaw16_ideal.f k l0 = some r) :
  Calls Try.prog 21 #[.slice A0 l0.length c0] w fun e w' => ∃ v0_ : Value, e = .returned (v0_) ∧ Kd.R k33 33 w' w.heap.size (fun _ => True) v0_ r ∧ Below w.heap.size w w' := by
 have hu33 := Try.underlying33
 have HR0 := Aside0.mk hr0
 have HC0 := Aside0.mk hc0
 clear hr0 hc0
 have HB := Aside0.mk (Below.refl w.heap.size w)
 have H : (signalbenchlaw16_ideal.l0 k l0 (([] : List (S33))) 0 0) = some r := h
 clear h
 obtain ⟨y200, hy200⟩ : ∃ y_ : List (S33), y_ = (([] : List (S33))) := ⟨_, rfl⟩
 replace H : (signalbenchlaw16_ideal.l0 k l0 y200 0 0) = some r := by first | (rw [hy200]; with_reducible exact H) | (have H2_ := (Option.bind_some _ _).symm.trans H; rw [hy200]; with_reducible exact H2_) | (have H2_ := (Option.bind_some _ _).symm.trans H; with_reducible exact H2_) | with_reducible exact H | (rw [hy200]; exact H) | exact H
 have Ny200 := Aside0.mk hy200
 clear hy200
 have H' := Aside0.mk H
 clear H
 go_enter Try.func21, Try.ntmps21
 go_wp2_with (first | ((with_reducible refine gate_dst (N := 8) rfl ?_); refine Kd.R_lit k33 _ 33 ?hg (N := 8) ?hd (xs := ([] : List (S33))) (inner := []) (ok := fun _ => True) (okp := fun _ => True) ?hr ?hp (fun _ hk => hk) trivial (Below.refl _ _) (Nat.le_refl _) (by simp) ?_; (case hd => rfl); (case hg => rfl); (case hr => first | (go_simp; done) | (go_simp; rfl)); (case hp => exact (Reps.none _ _)); intro v201 w2 ho3 hb hg_ hnew_; clear hg_ hnew_; (first | rw [← Ny200.out] at ho3 | (simp only [Int.reduceToNat] at ho3; rw [← Ny200.out] at ho3)); have n0_ := Aside0.mk (Kd.R_lower ho3 (below_size (hbw HB.out))); have n1_ := Aside0.mk (below_step (hbw HB.out) hb); clear HB; have HO202 := n0_; have HB := n1_; clear n0_ n1_; clear hb ho3))
 go_loopg [3, 4, 5] k (fun kq v3 v4 v5 w' => ∃ (x3_1 : List (S33)) (x4_1 : Int) (x5_1 : Int), v4 = .int .i64 x4_1 ∧ v5 = .int .i64 x5_1 ∧ Aside0 (signalbenchlaw16_ideal.l0 kq l0 x3_1 x4_1 x5_1 = some r) ∧ Aside0 (kq ≤ k) ∧ Aside0 (Kd.R k33 33 w' w.heap.size (fun _ => True) v3 x3_1) ∧ Aside0 (Below w.heap.size w w'))
 case atStart => exact ⟨(y200), (0), (0), (by first | rfl | (simp; done) | (simp [*]; done)), (by first | rfl | (simp; done) | (simp [*]; done)), H', ⟨Nat.le_refl _⟩, ⟨by (with_reducible repeat (first | apply Kd.R_alloc | apply Kd.R_drewN | apply Kd.R_drew)); exact HO202.out⟩, ⟨by repeat (first | (with_reducible first | exact HB.out | apply below_alloc | apply pw_below_drewN | apply below_drew1) | exact HB.out)⟩⟩
 case round =>
  clear H'
  try clear c2
  try clear p2
  obtain ⟨x3_1, x4_1, x5_1, rfl, rfl, HA, HK1, HO_3, HB⟩ := hrel
  cases gk with
  | zero => exact absurd HA.out (by simp [signalbenchlaw16_ideal.l0])
  | succ k1 =>
   have H := HA.out
   clear HA
   simp only [signalbenchlaw16_ideal.l0] at H
   have HC4 := Aside0.mk H
   clear H
   go_upto_if 12 with (fail)
   go_cut [] (fun wc => ∃ (kq : Nat), Aside0 (signalbenchlaw16_ideal.j1 kq l0 x3_1 x4_1 x5_1 = some r) ∧ Aside0 (kq ≤ k1) ∧ Aside0 (Kd.R k33 33 wc w.heap.size (fun _ => True) u3 x3_1) ∧ Aside0 (Below w.heap.size w wc))
   case first =>
    have H := HC4.out
    clear HC4
    by_cases c5 : x5_1 < (l0.length : Int)
    ·rw [if_pos c5] at H
     have c5b0 : decide (x5_1 < (l0.length : Int)) = true := decide_eq_true c5
     clear c5
     (first | rw [c5b0] | (simp only [i64_w, i32_w]; rw [c5b0]) | skip)
     have H' := Aside0.mk H
     clear H
     go_wp2
     go_meet
     case rel => exact ⟨_, H', ⟨by have := HK1.out; first | omega | exact Nat.le_refl _⟩, ⟨by (with_reducible repeat (first | apply Kd.R_alloc | apply Kd.R_drewN | apply Kd.R_drew)); exact HO_3.out⟩, ⟨by repeat (first | (with_reducible first | exact HB.out | apply below_alloc | apply pw_below_drewN | apply below_drew1) | exact HB.out)⟩⟩
    ·rw [if_neg c5] at H
     have c5b0 : decide (x5_1 < (l0.length : Int)) = false := decide_eq_false c5
     clear c5
     (first | rw [c5b0] | (simp only [i64_w, i32_w]; rw [c5b0]) | skip)
     obtain rfl := Option.some.inj H
     go_wp2
     go_ret
     exact ⟨_, by first | rfl | (simp [errW_none, errW_some] <;> rfl) | (simp [*, errW_none, errW_some] <;> rfl), by (with_reducible repeat (first | apply Kd.R_alloc | apply Kd.R_drewN | apply Kd.R_drew)); exact HO_3.out, by repeat (first | (with_reducible first | exact HB.out | apply below_alloc | apply pw_below_drewN | apply below_drew1) | exact HB.out)⟩
   case rest =>
    clear HC4
    try clear c2
    try clear p2
    try clear c5
    try clear c5b0
    try clear p2
    obtain ⟨kq, HA, HJ3, HO_3, HB⟩ := hcut
    cases kq with
    | zero => exact absurd HA.out (by simp [signalbenchlaw16_ideal.j1])
    | succ kj3 =>
     have H := HA.out
     clear HA
     simp only [signalbenchlaw16_ideal.j1] at H
     by_cases c6 : 0 ≤ x5_1
     ·rw [if_pos c6] at H
      have c6b0 : decide (0 ≤ x5_1) = true := decide_eq_true c6
      clear c6
      by_cases c7 : x5_1 < (l0.length : Int)
      ·rw [if_pos c7] at H
       have c7b0 : decide (x5_1 < (l0.length : Int)) = true := decide_eq_true c7
       clear c7
       have H' := Aside0.mk H
       clear H
       have p203 : 0 ≤ (x5_1 : Int) := of_decide_eq_true (by first | (with_reducible assumption) | assumption)
       have q203 : x5_1 < (l0.length : Int) := of_decide_eq_true (by first | (with_reducible assumption) | assumption)
       obtain ⟨ad203, e203, hx203_0, hx203_1, hx203_2, hx203_3, hx203_4⟩ := at_T44 HR0.out x5_1 p203 q203
       cases e203
       replace hx203_0 := (HB.out.cell (World.block_lt_of_cell? w _ hx203_0)).trans hx203_0
       replace hx203_1 := (HB.out.cell (World.block_lt_of_cell? w _ hx203_1)).trans hx203_1
       replace hx203_2 := (HB.out.cell (World.block_lt_of_cell? w _ hx203_2)).trans hx203_2
       replace hx203_3 := (HB.out.cell (World.block_lt_of_cell? w _ hx203_3)).trans hx203_3
       replace hx203_4 := (HB.out.cell (World.block_lt_of_cell? w _ hx203_4)).trans hx203_4
       replace p203 := eq_true p203
       replace q203 := eq_true q203
       go_wp2
       go_loopg [3, 4, 6] kj3 (fun kq v3 v4 v6 w' => ∃ (x3_3 : List (S33)) (x4_3 : Int) (x6_3 : Int), v4 = .int .i64 x4_3 ∧ v6 = .int .i64 x6_3 ∧ Aside0 (signalbenchlaw16_ideal.l1 kq l0 x3_3 x4_3 x5_1 x6_3 = some r) ∧ Aside0 (kq ≤ kj3) ∧ Aside0 (Kd.R k33 33 w' w.heap.size (fun _ => True) v3 x3_3) ∧ Aside0 (Below w.heap.size w w'))
       case atStart => exact ⟨(x3_1), (wrap64 (x4_1 + ((rd_T44 l0 x5_1).f0))), (0), (by first | rfl | (simp; done) | (simp [*]; done)), (by first | rfl | (simp; done) | (simp [*]; done)), H', ⟨Nat.le_refl _⟩, ⟨by (with_reducible repeat (first | apply Kd.R_alloc | apply Kd.R_drewN | apply Kd.R_drew)); exact HO_3.out⟩, ⟨by repeat (first | (with_reducible first | exact HB.out | apply below_alloc | apply pw_below_drewN | apply below_drew1) | exact HB.out)⟩⟩
       case round =>
        clear H'
        try clear c2
        try clear p2
        try clear q2
        try clear hx2
        try clear c5
        try clear c5b0
        try clear c6
        try clear c6b0
        try clear p6
        try clear c7
        try clear c7b0
        try clear hx203_0
        try clear hx203_1
        try clear hx203_2
        try clear hx203_3
        try clear hx203_4
        try clear p2
        try clear p203
        try clear q203
        obtain ⟨x3_3, x4_3, x6_3, rfl, rfl, HA, HK3, HO_3, HB⟩ := hrel
        cases gk with
        | zero => exact absurd HA.out (by simp [signalbenchlaw16_ideal.l1])
        | succ k3 =>
         have H := HA.out
         clear HA
         simp only [signalbenchlaw16_ideal.l1] at H
         by_cases c8 : 0 ≤ x5_1
         ·rw [if_pos c8] at H
          have c8b0 : decide (0 ≤ x5_1) = true := decide_eq_true c8
          clear c8
          by_cases c9 : x5_1 < (l0.length : Int)
          ·rw [if_pos c9] at H
           have c9b0 : decide (x5_1 < (l0.length : Int)) = true := decide_eq_true c9
           clear c9
           by_cases c10 : x6_3 < (((rd_T44 l0 x5_1).f3).size : Int)
           ·rw [if_pos c10] at H
            have c10b0 : decide (x6_3 < (((rd_T44 l0 x5_1).f3).size : Int)) = true := decide_eq_true c10
            clear c10
            by_cases c11 : 0 ≤ x6_3
            ·rw [if_pos c11] at H
             have c11b0 : decide (0 ≤ x6_3) = true := decide_eq_true c11
             clear c11
             by_cases c13 : (bt ((rd_T44 l0 x5_1).f3) x6_3) = 49
             ·rw [if_pos c13] at H
              have c13b0 : ((bt ((rd_T44 l0 x5_1).f3) x6_3) == 49) = true := beq_iff_eq.mpr c13
              have c13b1 : ((bt ((rd_T44 l0 x5_1).f3) x6_3) != 49) = false := bne_eq_false_iff_eq.mpr c13
              clear c13
              by_cases c14 : x3_3.length < 2199023255552
              ·rw [if_pos c14] at H
               have LMc14 := Aside0.mk c14
               clear c14
               obtain ⟨y207, hy207⟩ : ∃ y_ : List (S33), y_ = (x3_3 ++ [(⟨2, x4_3, wrap64 (x4_3 + 1), 1, 0, (⟨#[]⟩ : ByteArray), 0⟩ : S33)]) := ⟨_, rfl⟩
               replace H : (signalbenchlaw16_ideal.l1 k3 l0 y207 (wrap64 (x4_3 + 1)) x5_1 (wrap64 (x6_3 + 1))) = some r := by first | (rw [hy207]; with_reducible exact H) | (have H2_ := (Option.bind_some _ _).symm.trans H; rw [hy207]; with_reducible exact H2_) | (have H2_ := (Option.bind_some _ _).symm.trans H; with_reducible exact H2_) | with_reducible exact H | (rw [hy207]; exact H) | exact H
               have Ny207 := Aside0.mk hy207
               clear hy207
               have H' := Aside0.mk H
               clear H
               have p204 : 0 ≤ (x5_1 : Int) := of_decide_eq_true (by first | (with_reducible assumption) | assumption)
               have q204 : x5_1 < (l0.length : Int) := of_decide_eq_true (by first | (with_reducible assumption) | assumption)
               obtain ⟨ad204, e204, hx204_0, hx204_1, hx204_2, hx204_3, hx204_4⟩ := at_T44 HR0.out x5_1 p204 q204
               obtain rfl : ad203 = ad204 := (by injection e204)
               replace hx204_0 := (HB.out.cell (World.block_lt_of_cell? w _ hx204_0)).trans hx204_0
               replace hx204_1 := (HB.out.cell (World.block_lt_of_cell? w _ hx204_1)).trans hx204_1
               replace hx204_2 := (HB.out.cell (World.block_lt_of_cell? w _ hx204_2)).trans hx204_2
               replace hx204_3 := (HB.out.cell (World.block_lt_of_cell? w _ hx204_3)).trans hx204_3
               replace hx204_4 := (HB.out.cell (World.block_lt_of_cell? w _ hx204_4)).trans hx204_4
               replace p204 := eq_true p204
               replace q204 := eq_true q204
               go_wp2_with (first | ((with_reducible refine gate_dst (N := 7) rfl ?_); refine box_event ?hg (N := 7) ?hd (cs := #[.int .i64 0, .int .i64 0, .int .i64 0, .int .i64 0, .int .i64 0, .string (⟨#[]⟩ : ByteArray), .int .i64 0]) (t := 33) ?hr ?_; (case hd => rfl); (case hg => rfl); (case hr => first | (go_simp; done) | (go_simp; rfl)); intro gb205 hg w15 hbox hb; have hIS_ := isSome_set; have n0_ := Aside0.mk (Kd.R_below (Kd.R_elderB (rkw HO_3.out) gb205 (Nat.le_of_eq hg.symm)) hb); have n1_ := Aside0.mk (below_step (hbw HB.out) hb); have n2_ := Aside0.mk (hbox); have n3_ := Aside0.mk ((by rw [hg]; exact (below_size (hbw HB.out)) : w.heap.size ≤ gb205)); have n4_ := Aside0.mk ((by rw [hg]; exact (below_size (hbw HB.out)) : w.heap.size ≤ gb205)); clear HO_3; clear HB; have HO_3 := n0_; have HB := n1_; have BK205 := n2_; have GW205 := n3_; have GE205 := n4_; clear n0_ n1_ n2_ n3_ n4_; clear hb hbox hg; have hcz16_0 : w15.cell? ⟨gb205, 0, none⟩ = some (.int .i64 0) := (blk_cell BK205.out 0).trans rfl; have hcz16_1 : w15.cell? ⟨gb205, 1, none⟩ = some (.int .i64 0) := (blk_cell BK205.out 1).trans rfl; have hcz16_2 : w15.cell? ⟨gb205, 2, none⟩ = some (.int .i64 0) := (blk_cell BK205.out 2).trans rfl; have hcz16_3 : w15.cell? ⟨gb205, 3, none⟩ = some (.int .i64 0) := (blk_cell BK205.out 3).trans rfl; have hcz16_4 : w15.cell? ⟨gb205, 4, none⟩ = some (.int .i64 0) := (blk_cell BK205.out 4).trans rfl; have hcz16_5 : w15.cell? ⟨gb205, 5, none⟩ = some (.string (⟨#[]⟩ : ByteArray)) := (blk_cell BK205.out 5).trans rfl; have hcz16_6 : w15.cell? ⟨gb205, 6, none⟩ = some (.int .i64 0) := (blk_cell BK205.out 6).trans rfl; have hfz16_0 := blk_frozen BK205.out 0; have hfz16_1 := blk_frozen BK205.out 1; have hfz16_2 := blk_frozen BK205.out 2; have hfz16_3 := blk_frozen BK205.out 3; have hfz16_4 := blk_frozen BK205.out 4; have hfz16_5 := blk_frozen BK205.out 5; have hfz16_6 := blk_frozen BK205.out 6; have p206 : 0 ≤ (x5_1 : Int) := of_decide_eq_true (by first | (with_reducible assumption) | assumption); have q206 : x5_1 < (l0.length : Int) := of_decide_eq_true (by first | (with_reducible assumption) | assumption); obtain ⟨ad206, e206, hx206_0, hx206_1, hx206_2, hx206_3, hx206_4⟩ := at_T44 HR0.out x5_1 p206 q206; obtain rfl : ad203 = ad206 := (by injection e206); have hn206_0 : ad203.block ≠ gb205 := Nat.ne_of_lt (Nat.lt_of_lt_of_le (by have := World.block_lt_of_cell? _ _ hx206_0; first | rwa [add_block] at this | exact this) GW205.out); have hn206_1 : ad203.block ≠ gb205 := Nat.ne_of_lt (Nat.lt_of_lt_of_le (by have := World.block_lt_of_cell? _ _ hx206_0; first | rwa [add_block] at this | exact this) GW205.out); have hn206_2 : ad203.block ≠ gb205 := Nat.ne_of_lt (Nat.lt_of_lt_of_le (by have := World.block_lt_of_cell? _ _ hx206_0; first | rwa [add_block] at this | exact this) GW205.out); have hn206_3 : ad203.block ≠ gb205 := Nat.ne_of_lt (Nat.lt_of_lt_of_le (by have := World.block_lt_of_cell? _ _ hx206_0; first | rwa [add_block] at this | exact this) GW205.out); have hn206_4 : ad203.block ≠ gb205 := Nat.ne_of_lt (Nat.lt_of_lt_of_le (by have := World.block_lt_of_cell? _ _ hx206_0; first | rwa [add_block] at this | exact this) GW205.out); have hn206_5 : ad203.block ≠ gb205 := Nat.ne_of_lt (Nat.lt_of_lt_of_le (by have := World.block_lt_of_cell? _ _ hx206_0; first | rwa [add_block] at this | exact this) GW205.out); have hn206_6 : ad203.block ≠ gb205 := Nat.ne_of_lt (Nat.lt_of_lt_of_le (by have := World.block_lt_of_cell? _ _ hx206_0; first | rwa [add_block] at this | exact this) GW205.out); replace hx206_0 := (HB.out.cell (World.block_lt_of_cell? w _ hx206_0)).trans hx206_0; replace hx206_1 := (HB.out.cell (World.block_lt_of_cell? w _ hx206_1)).trans hx206_1; replace hx206_2 := (HB.out.cell (World.block_lt_of_cell? w _ hx206_2)).trans hx206_2; replace hx206_3 := (HB.out.cell (World.block_lt_of_cell? w _ hx206_3)).trans hx206_3; replace hx206_4 := (HB.out.cell (World.block_lt_of_cell? w _ hx206_4)).trans hx206_4; replace hx206_0 := (cell_far (p := ⟨gb205, 0, none⟩) (by first | (rw [add_block]; exact hn206_0) | (show (Addr.add _ _).block ≠ _; rw [add_block]; exact hn206_0) | exact hn206_0) (.int .i64 2)).trans hx206_0; replace hx206_1 := (cell_far (p := ⟨gb205, 0, none⟩) (by first | (rw [add_block]; exact hn206_0) | (show (Addr.add _ _).block ≠ _; rw [add_block]; exact hn206_0) | exact hn206_0) (.int .i64 2)).trans hx206_1; replace hx206_2 := (cell_far (p := ⟨gb205, 0, none⟩) (by first | (rw [add_block]; exact hn206_0) | (show (Addr.add _ _).block ≠ _; rw [add_block]; exact hn206_0) | exact hn206_0) (.int .i64 2)).trans hx206_2; replace hx206_3 := (cell_far (p := ⟨gb205, 0, none⟩) (by first | (rw [add_block]; exact hn206_0) | (show (Addr.add _ _).block ≠ _; rw [add_block]; exact hn206_0) | exact hn206_0) (.int .i64 2)).trans hx206_3; replace hx206_4 := (cell_far (p := ⟨gb205, 0, none⟩) (by first | (rw [add_block]; exact hn206_0) | (show (Addr.add _ _).block ≠ _; rw [add_block]; exact hn206_0) | exact hn206_0) (.int .i64 2)).trans hx206_4; replace hx206_0 := (cell_far (p := ⟨gb205, 1, none⟩) (by first | (rw [add_block]; exact hn206_1) | (show (Addr.add _ _).block ≠ _; rw [add_block]; exact hn206_1) | exact hn206_1) (.int .i64 x4_3)).trans hx206_0; replace hx206_1 := (cell_far (p := ⟨gb205, 1, none⟩) (by first | (rw [add_block]; exact hn206_1) | (show (Addr.add _ _).block ≠ _; rw [add_block]; exact hn206_1) | exact hn206_1) (.int .i64 x4_3)).trans hx206_1; replace hx206_2 := (cell_far (p := ⟨gb205, 1, none⟩) (by first | (rw [add_block]; exact hn206_1) | (show (Addr.add _ _).block ≠ _; rw [add_block]; exact hn206_1) | exact hn206_1) (.int .i64 x4_3)).trans hx206_2; replace hx206_3 := (cell_far (p := ⟨gb205, 1, none⟩) (by first | (rw [add_block]; exact hn206_1) | (show (Addr.add _ _).block ≠ _; rw [add_block]; exact hn206_1) | exact hn206_1) (.int .i64 x4_3)).trans hx206_3; replace hx206_4 := (cell_far (p := ⟨gb205, 1, none⟩) (by first | (rw [add_block]; exact hn206_1) | (show (Addr.add _ _).block ≠ _; rw [add_block]; exact hn206_1) | exact hn206_1) (.int .i64 x4_3)).trans hx206_4; replace hx206_0 := (cell_far (p := ⟨gb205, 2, none⟩) (by first | (rw [add_block]; exact hn206_2) | (show (Addr.add _ _).block ≠ _; rw [add_block]; exact hn206_2) | exact hn206_2) (.int .i64 (wrap64 (x4_3 + 1)))).trans hx206_0; replace hx206_1 := (cell_far (p := ⟨gb205, 2, none⟩) (by first | (rw [add_block]; exact hn206_2) | (show (Addr.add _ _).block ≠ _; rw [add_block]; exact hn206_2) | exact hn206_2) (.int .i64 (wrap64 (x4_3 + 1)))).trans hx206_1; replace hx206_2 := (cell_far (p := ⟨gb205, 2, none⟩) (by first | (rw [add_block]; exact hn206_2) | (show (Addr.add _ _).block ≠ _; rw [add_block]; exact hn206_2) | exact hn206_2) (.int .i64 (wrap64 (x4_3 + 1)))).trans hx206_2; replace hx206_3 := (cell_far (p := ⟨gb205, 2, none⟩) (by first | (rw [add_block]; exact hn206_2) | (show (Addr.add _ _).block ≠ _; rw [add_block]; exact hn206_2) | exact hn206_2) (.int .i64 (wrap64 (x4_3 + 1)))).trans hx206_3; replace hx206_4 := (cell_far (p := ⟨gb205, 2, none⟩) (by first | (rw [add_block]; exact hn206_2) | (show (Addr.add _ _).block ≠ _; rw [add_block]; exact hn206_2) | exact hn206_2) (.int .i64 (wrap64 (x4_3 + 1)))).trans hx206_4; replace hx206_0 := (cell_far (p := ⟨gb205, 3, none⟩) (by first | (rw [add_block]; exact hn206_3) | (show (Addr.add _ _).block ≠ _; rw [add_block]; exact hn206_3) | exact hn206_3) (.int .i64 0)).trans hx206_0; replace hx206_1 := (cell_far (p := ⟨gb205, 3, none⟩) (by first | (rw [add_block]; exact hn206_3) | (show (Addr.add _ _).block ≠ _; rw [add_block]; exact hn206_3) | exact hn206_3) (.int .i64 0)).trans hx206_1; replace hx206_2 := (cell_far (p := ⟨gb205, 3, none⟩) (by first | (rw [add_block]; exact hn206_3) | (show (Addr.add _ _).block ≠ _; rw [add_block]; exact hn206_3) | exact hn206_3) (.int .i64 0)).trans hx206_2; replace hx206_3 := (cell_far (p := ⟨gb205, 3, none⟩) (by first | (rw [add_block]; exact hn206_3) | (show (Addr.add _ _).block ≠ _; rw [add_block]; exact hn206_3) | exact hn206_3) (.int .i64 0)).trans hx206_3; replace hx206_4 := (cell_far (p := ⟨gb205, 3, none⟩) (by first | (rw [add_block]; exact hn206_3) | (show (Addr.add _ _).block ≠ _; rw [add_block]; exact hn206_3) | exact hn206_3) (.int .i64 0)).trans hx206_4; replace hx206_0 := (cell_far (p := ⟨gb205, 4, none⟩) (by first | (rw [add_block]; exact hn206_4) | (show (Addr.add _ _).block ≠ _; rw [add_block]; exact hn206_4) | exact hn206_4) (.int .i64 0)).trans hx206_0; replace hx206_1 := (cell_far (p := ⟨gb205, 4, none⟩) (by first | (rw [add_block]; exact hn206_4) | (show (Addr.add _ _).block ≠ _; rw [add_block]; exact hn206_4) | exact hn206_4) (.int .i64 0)).trans hx206_1; replace hx206_2 := (cell_far (p := ⟨gb205, 4, none⟩) (by first | (rw [add_block]; exact hn206_4) | (show (Addr.add _ _).block ≠ _; rw [add_block]; exact hn206_4) | exact hn206_4) (.int .i64 0)).trans hx206_2; replace hx206_3 := (cell_far (p := ⟨gb205, 4, none⟩) (by first | (rw [add_block]; exact hn206_4) | (show (Addr.add _ _).block ≠ _; rw [add_block]; exact hn206_4) | exact hn206_4) (.int .i64 0)).trans hx206_3; replace hx206_4 := (cell_far (p := ⟨gb205, 4, none⟩) (by first | (rw [add_block]; exact hn206_4) | (show (Addr.add _ _).block ≠ _; rw [add_block]; exact hn206_4) | exact hn206_4) (.int .i64 0)).trans hx206_4; replace hx206_0 := (cell_far (p := ⟨gb205, 5, none⟩) (by first | (rw [add_block]; exact hn206_5) | (show (Addr.add _ _).block ≠ _; rw [add_block]; exact hn206_5) | exact hn206_5) (.string (⟨#[]⟩ : ByteArray))).trans hx206_0; replace hx206_1 := (cell_far (p := ⟨gb205, 5, none⟩) (by first | (rw [add_block]; exact hn206_5) | (show (Addr.add _ _).block ≠ _; rw [add_block]; exact hn206_5) | exact hn206_5) (.string (⟨#[]⟩ : ByteArray))).trans hx206_1; replace hx206_2 := (cell_far (p := ⟨gb205, 5, none⟩) (by first | (rw [add_block]; exact hn206_5) | (show (Addr.add _ _).block ≠ _; rw [add_block]; exact hn206_5) | exact hn206_5) (.string (⟨#[]⟩ : ByteArray))).trans hx206_2; replace hx206_3 := (cell_far (p := ⟨gb205, 5, none⟩) (by first | (rw [add_block]; exact hn206_5) | (show (Addr.add _ _).block ≠ _; rw [add_block]; exact hn206_5) | exact hn206_5) (.string (⟨#[]⟩ : ByteArray))).trans hx206_3; replace hx206_4 := (cell_far (p := ⟨gb205, 5, none⟩) (by first | (rw [add_block]; exact hn206_5) | (show (Addr.add _ _).block ≠ _; rw [add_block]; exact hn206_5) | exact hn206_5) (.string (⟨#[]⟩ : ByteArray))).trans hx206_4; replace hx206_0 := (cell_far (p := ⟨gb205, 6, none⟩) (by first | (rw [add_block]; exact hn206_6) | (show (Addr.add _ _).block ≠ _; rw [add_block]; exact hn206_6) | exact hn206_6) (.int .i64 0)).trans hx206_0; replace hx206_1 := (cell_far (p := ⟨gb205, 6, none⟩) (by first | (rw [add_block]; exact hn206_6) | (show (Addr.add _ _).block ≠ _; rw [add_block]; exact hn206_6) | exact hn206_6) (.int .i64 0)).trans hx206_1; replace hx206_2 := (cell_far (p := ⟨gb205, 6, none⟩) (by first | (rw [add_block]; exact hn206_6) | (show (Addr.add _ _).block ≠ _; rw [add_block]; exact hn206_6) | exact hn206_6) (.int .i64 0)).trans hx206_2; replace hx206_3 := (cell_far (p := ⟨gb205, 6, none⟩) (by first | (rw [add_block]; exact hn206_6) | (show (Addr.add _ _).block ≠ _; rw [add_block]; exact hn206_6) | exact hn206_6) (.int .i64 0)).trans hx206_3; replace hx206_4 := (cell_far (p := ⟨gb205, 6, none⟩) (by first | (rw [add_block]; exact hn206_6) | (show (Addr.add _ _).block ≠ _; rw [add_block]; exact hn206_6) | exact hn206_6) (.int .i64 0)).trans hx206_4; clear hn206_0; clear hn206_1; clear hn206_2; clear hn206_3; clear hn206_4; clear hn206_5; clear hn206_6; replace p206 := eq_true p206; replace q206 := eq_true q206; have p12 : 0 ≤ (x6_3 : Int) := of_decide_eq_true (by first | (with_reducible assumption) | assumption); have q12 : x6_3 < (((rd_T44 l0 x5_1).f3).size : Int) := of_decide_eq_true (by first | (with_reducible assumption) | assumption); have hx12 := bt_at ((rd_T44 l0 x5_1).f3) x6_3; replace p12 := eq_true p12; replace q12 := eq_true q12) | ((with_reducible refine gate_builtin (b := .append) (xs := #[.tmp 45, .tmp 47]) rfl ?_); at_builtin; refine Kd.R_append k33 (w0 := w) w.heap.size rfl (.tmp 45) (.tmp 47) 24 33 (.agg #[(.int .i64 0), (.int .i64 0), (.int .i64 0), (.int .i64 0), (.int .i64 0), (.string ⟨#[]⟩), (.int .i64 0)]) 64 rfl Try.underlying24 info33 rfl (by decide) (by omega) u3 x3_3 (⟨2, x4_3, wrap64 (x4_3 + 1), 1, 0, (⟨#[]⟩ : ByteArray), 0⟩ : S33) [.int .i64 2, .int .i64 x4_3, .int .i64 (wrap64 (x4_3 + 1)), .int .i64 1, .int .i64 0, .string (⟨#[]⟩ : ByteArray), .int .i64 0] (fun k_ => k_ ≠ gb205) (fun _ => False) rfl (by first | (go_simp; done) | (go_simp; rfl)) ?aP (fun _ hk => hk.elim) ?aF ?aO ?aB ?aS ?aL ?_; (case aP => exact k33_mkM _ _ _ (⟨2, x4_3, wrap64 (x4_3 + 1), 1, 0, (⟨#[]⟩ : ByteArray), 0⟩ : S33)); (case aB => exact (hbw HB.out)); (case aF => exact (fun k_ hk => Kd.freshB (g := gb205) (o := .cells #[.int .i64 2, .int .i64 x4_3, .int .i64 (wrap64 (x4_3 + 1)), .int .i64 1, .int .i64 0, .string (⟨#[]⟩ : ByteArray), .int .i64 0] 33 (0, 0)) (by (with_reducible repeat (first | refine blk_drewN ?_ _ | refine blk_drew ?_ | refine blk_alloc ?_ _)); refine blk_put (cs := #[.int .i64 2, .int .i64 x4_3, .int .i64 (wrap64 (x4_3 + 1)), .int .i64 0, .int .i64 0, .string (⟨#[]⟩ : ByteArray), .int .i64 0]) ?_ 3 _ rfl; (with_reducible repeat (first | refine blk_drewN ?_ _ | refine blk_drew ?_ | refine blk_alloc ?_ _)); refine blk_put (cs := #[.int .i64 2, .int .i64 x4_3, .int .i64 (wrap64 (x4_3 + 1)), .int .i64 0, .int .i64 0, .string (⟨#[]⟩ : ByteArray), .int .i64 0]) ?_ 6 _ rfl; (with_reducible repeat (first | refine blk_drewN ?_ _ | refine blk_drew ?_ | refine blk_alloc ?_ _)); refine blk_put (cs := #[.int .i64 2, .int .i64 x4_3, .int .i64 (wrap64 (x4_3 + 1)), .int .i64 0, .int .i64 0, .string (⟨#[]⟩ : ByteArray), .int .i64 0]) ?_ 5 _ rfl; (with_reducible repeat (first | refine blk_drewN ?_ _ | refine blk_drew ?_ | refine blk_alloc ?_ _)); refine blk_put (cs := #[.int .i64 2, .int .i64 x4_3, .int .i64 (wrap64 (x4_3 + 1)), .int .i64 0, .int .i64 0, .string (⟨#[]⟩ : ByteArray), .int .i64 0]) ?_ 4 _ rfl; (with_reducible repeat (first | refine blk_drewN ?_ _ | refine blk_drew ?_ | refine blk_alloc ?_ _)); refine blk_put (cs := #[.int .i64 2, .int .i64 x4_3, .int .i64 (wrap64 (x4_3 + 1)), .int .i64 0, .int .i64 0, .string (⟨#[]⟩ : ByteArray), .int .i64 0]) ?_ 3 _ rfl; (with_reducible repeat (first | refine blk_drewN ?_ _ | refine blk_drew ?_ | refine blk_alloc ?_ _)); refine blk_put (cs := #[.int .i64 2, .int .i64 x4_3, .int .i64 0, .int .i64 0, .int .i64 0, .string (⟨#[]⟩ : ByteArray), .int .i64 0]) ?_ 2 _ rfl; (with_reducible repeat (first | refine blk_drewN ?_ _ | refine blk_drew ?_ | refine blk_alloc ?_ _)); refine blk_put (cs := #[.int .i64 2, .int .i64 0, .int .i64 0, .int .i64 0, .int .i64 0, .string (⟨#[]⟩ : ByteArray), .int .i64 0]) ?_ 1 _ rfl; (with_reducible repeat (first | refine blk_drewN ?_ _ | refine blk_drew ?_ | refine blk_alloc ?_ _)); refine blk_put (cs := #[.int .i64 0, .int .i64 0, .int .i64 0, .int .i64 0, .int .i64 0, .string (⟨#[]⟩ : ByteArray), .int .i64 0]) ?_ 0 _ rfl; (with_reducible repeat (first | refine blk_drewN ?_ _ | refine blk_drew ?_ | refine blk_alloc ?_ _)); exact BK205.out) k_ hk)); (case aO => exact (by (with_reducible repeat (first | apply Kd.R_alloc | apply Kd.R_drewN | apply Kd.R_drew)); exact Kd.R_mono (Kd.R_far (p := ⟨gb205, 3, none⟩) (Kd.R_far (p := ⟨gb205, 6, none⟩) (Kd.R_far (p := ⟨gb205, 5, none⟩) (Kd.R_far (p := ⟨gb205, 4, none⟩) (Kd.R_far (p := ⟨gb205, 3, none⟩) (Kd.R_far (p := ⟨gb205, 2, none⟩) (Kd.R_far (p := ⟨gb205, 1, none⟩) (Kd.R_far (p := ⟨gb205, 0, none⟩) (Kd.R_mono HO_3.out (fun k_ hk => (⟨hk, hk.2⟩ : _ ∧ k_ ≠ gb205))) (fun _ hk => hk.2) (.int .i64 2)) (fun _ hk => hk.2) (.int .i64 x4_3)) (fun _ hk => hk.2) (.int .i64 (wrap64 (x4_3 + 1)))) (fun _ hk => hk.2) (.int .i64 0)) (fun _ hk => hk.2) (.int .i64 0)) (fun _ hk => hk.2) (.string (⟨#[]⟩ : ByteArray))) (fun _ hk => hk.2) (.int .i64 0)) (fun _ hk => hk.2) (.int .i64 1)) (fun _ hk => hk.1.2))); (case aS => exact (below_size (hbw HB.out))); (case aL => have := LMc14.out; omega); intro v208 w17 ho hb hg hat; rw [← Ny207.out] at ho; have n0_ := Aside0.mk (blk_grown (g := gb205) (o := .cells #[.int .i64 2, .int .i64 x4_3, .int .i64 (wrap64 (x4_3 + 1)), .int .i64 1, .int .i64 0, .string (⟨#[]⟩ : ByteArray), .int .i64 0] 33 (0, 0)) (by (with_reducible repeat (first | refine blk_drewN ?_ _ | refine blk_drew ?_ | refine blk_alloc ?_ _)); refine blk_put (cs := #[.int .i64 2, .int .i64 x4_3, .int .i64 (wrap64 (x4_3 + 1)), .int .i64 0, .int .i64 0, .string (⟨#[]⟩ : ByteArray), .int .i64 0]) ?_ 3 _ rfl; (with_reducible repeat (first | refine blk_drewN ?_ _ | refine blk_drew ?_ | refine blk_alloc ?_ _)); refine blk_put (cs := #[.int .i64 2, .int .i64 x4_3, .int .i64 (wrap64 (x4_3 + 1)), .int .i64 0, .int .i64 0, .string (⟨#[]⟩ : ByteArray), .int .i64 0]) ?_ 6 _ rfl; (with_reducible repeat (first | refine blk_drewN ?_ _ | refine blk_drew ?_ | refine blk_alloc ?_ _)); refine blk_put (cs := #[.int .i64 2, .int .i64 x4_3, .int .i64 (wrap64 (x4_3 + 1)), .int .i64 0, .int .i64 0, .string (⟨#[]⟩ : ByteArray), .int .i64 0]) ?_ 5 _ rfl; (with_reducible repeat (first | refine blk_drewN ?_ _ | refine blk_drew ?_ | refine blk_alloc ?_ _)); refine blk_put (cs := #[.int .i64 2, .int .i64 x4_3, .int .i64 (wrap64 (x4_3 + 1)), .int .i64 0, .int .i64 0, .string (⟨#[]⟩ : ByteArray), .int .i64 0]) ?_ 4 _ rfl; (with_reducible repeat (first | refine blk_drewN ?_ _ | refine blk_drew ?_ | refine blk_alloc ?_ _)); refine blk_put (cs := #[.int .i64 2, .int .i64 x4_3, .int .i64 (wrap64 (x4_3 + 1)), .int .i64 0, .int .i64 0, .string (⟨#[]⟩ : ByteArray), .int .i64 0]) ?_ 3 _ rfl; (with_reducible repeat (first | refine blk_drewN ?_ _ | refine blk_drew ?_ | refine blk_alloc ?_ _)); refine blk_put (cs := #[.int .i64 2, .int .i64 x4_3, .int .i64 0, .int .i64 0, .int .i64 0, .string (⟨#[]⟩ : ByteArray), .int .i64 0]) ?_ 2 _ rfl; (with_reducible repeat (first | refine blk_drewN ?_ _ | refine blk_drew ?_ | refine blk_alloc ?_ _)); refine blk_put (cs := #[.int .i64 2, .int .i64 0, .int .i64 0, .int .i64 0, .int .i64 0, .string (⟨#[]⟩ : ByteArray), .int .i64 0]) ?_ 1 _ rfl; (with_reducible repeat (first | refine blk_drewN ?_ _ | refine blk_drew ?_ | refine blk_alloc ?_ _)); refine blk_put (cs := #[.int .i64 0, .int .i64 0, .int .i64 0, .int .i64 0, .int .i64 0, .string (⟨#[]⟩ : ByteArray), .int .i64 0]) ?_ 0 _ rfl; (with_reducible repeat (first | refine blk_drewN ?_ _ | refine blk_drew ?_ | refine blk_alloc ?_ _)); exact BK205.out) hg (Kd.R_away HO_3.out (fun _ hk => hk.2))); have n1_ := Aside0.mk (hb); have n2_ := Aside0.mk (ho); clear BK205; clear HB; clear HO_3; have BK205 := n0_; have HB := n1_; have HO209 := n2_; clear n0_ n1_ n2_; clear ho hb hg hat))
               go_roundg k3
               case measure => have := HK1.out; have := HJ3.out; have := HK3.out; omega
               case rel => exact ⟨(y207), (wrap64 (x4_3 + 1)), (wrap64 (x6_3 + 1)), (by first | rfl | (simp; done) | (simp [*]; done)), (by first | rfl | (simp; done) | (simp [*]; done)), H', ⟨by have := HK1.out; have := HJ3.out; have := HK3.out; omega⟩, ⟨by (with_reducible repeat (first | apply Kd.R_alloc | apply Kd.R_drewN | apply Kd.R_drew)); exact Kd.R_mono HO209.out (fun _ hk => trivial)⟩, ⟨by repeat (first | (with_reducible first | exact HB.out | apply below_alloc | apply pw_below_drewN | apply below_drew1 | refine below_set ?_ GE205.out) | exact HB.out)⟩⟩
              ·rw [if_neg c14] at H
               exact absurd H (by simp)
             ·rw [if_neg c13] at H
              have c13b0 : ((bt ((rd_T44 l0 x5_1).f3) x6_3) == 49) = false := beq_eq_false_iff_ne.mpr c13
              have c13b1 : ((bt ((rd_T44 l0 x5_1).f3) x6_3) != 49) = true := bne_iff_ne.mpr c13
              by_cases c18 : x3_3.length < 2199023255552
              ·rw [if_pos c18] at H
               have LMc18 := Aside0.mk c18
               clear c18
               obtain ⟨y210, hy210⟩ : ∃ y_ : List (S33), y_ = (x3_3 ++ [(⟨2, x4_3, wrap64 (x4_3 + 1), 0, 0, (⟨#[]⟩ : ByteArray), 0⟩ : S33)]) := ⟨_, rfl⟩
               replace H : (signalbenchlaw16_ideal.l1 k3 l0 y210 (wrap64 (x4_3 + 1)) x5_1 (wrap64 (x6_3 + 1))) = some r := by first | (rw [hy210]; with_reducible exact H) | (have H2_ := (Option.bind_some _ _).symm.trans H; rw [hy210]; with_reducible exact H2_) | (have H2_ := (Option.bind_some _ _).symm.trans H; with_reducible exact H2_) | with_reducible exact H | (rw [hy210]; exact H) | exact H
               have Ny210 := Aside0.mk hy210
               clear hy210
               have H' := Aside0.mk H
               clear H
               have p204 : 0 ≤ (x5_1 : Int) := of_decide_eq_true (by first | (with_reducible assumption) | assumption)
               have q204 : x5_1 < (l0.length : Int) := of_decide_eq_true (by first | (with_reducible assumption) | assumption)
               obtain ⟨ad204, e204, hx204_0, hx204_1, hx204_2, hx204_3, hx204_4⟩ := at_T44 HR0.out x5_1 p204 q204
               obtain rfl : ad203 = ad204 := (by injection e204)
               replace hx204_0 := (HB.out.cell (World.block_lt_of_cell? w _ hx204_0)).trans hx204_0
               replace hx204_1 := (HB.out.cell (World.block_lt_of_cell? w _ hx204_1)).trans hx204_1
               replace hx204_2 := (HB.out.cell (World.block_lt_of_cell? w _ hx204_2)).trans hx204_2
               replace hx204_3 := (HB.out.cell (World.block_lt_of_cell? w _ hx204_3)).trans hx204_3
               replace hx204_4 := (HB.out.cell (World.block_lt_of_cell? w _ hx204_4)).trans hx204_4
               replace p204 := eq_true p204
               replace q204 := eq_true q204
               go_wp2_with (first | ((with_reducible refine gate_dst (N := 7) rfl ?_); refine box_event ?hg (N := 7) ?hd (cs := #[.int .i64 0, .int .i64 0, .int .i64 0, .int .i64 0, .int .i64 0, .string (⟨#[]⟩ : ByteArray), .int .i64 0]) (t := 33) ?hr ?_; (case hd => rfl); (case hg => rfl); (case hr => first | (go_simp; done) | (go_simp; rfl)); intro gb205 hg w19 hbox hb; have hIS_ := isSome_set; have n0_ := Aside0.mk (Kd.R_below (Kd.R_elderB (rkw HO_3.out) gb205 (Nat.le_of_eq hg.symm)) hb); have n1_ := Aside0.mk (below_step (hbw HB.out) hb); have n2_ := Aside0.mk (hbox); have n3_ := Aside0.mk ((by rw [hg]; exact (below_size (hbw HB.out)) : w.heap.size ≤ gb205)); have n4_ := Aside0.mk ((by rw [hg]; exact (below_size (hbw HB.out)) : w.heap.size ≤ gb205)); clear HO_3; clear HB; have HO_3 := n0_; have HB := n1_; have BK205 := n2_; have GW205 := n3_; have GE205 := n4_; clear n0_ n1_ n2_ n3_ n4_; clear hb hbox hg; have hcz20_0 : w19.cell? ⟨gb205, 0, none⟩ = some (.int .i64 0) := (blk_cell BK205.out 0).trans rfl; have hcz20_1 : w19.cell? ⟨gb205, 1, none⟩ = some (.int .i64 0) := (blk_cell BK205.out 1).trans rfl; have hcz20_2 : w19.cell? ⟨gb205, 2, none⟩ = some (.int .i64 0) := (blk_cell BK205.out 2).trans rfl; have hcz20_3 : w19.cell? ⟨gb205, 3, none⟩ = some (.int .i64 0) := (blk_cell BK205.out 3).trans rfl; have hcz20_4 : w19.cell? ⟨gb205, 4, none⟩ = some (.int .i64 0) := (blk_cell BK205.out 4).trans rfl; have hcz20_5 : w19.cell? ⟨gb205, 5, none⟩ = some (.string (⟨#[]⟩ : ByteArray)) := (blk_cell BK205.out 5).trans rfl; have hcz20_6 : w19.cell? ⟨gb205, 6, none⟩ = some (.int .i64 0) := (blk_cell BK205.out 6).trans rfl; have hfz20_0 := blk_frozen BK205.out 0; have hfz20_1 := blk_frozen BK205.out 1; have hfz20_2 := blk_frozen BK205.out 2; have hfz20_3 := blk_frozen BK205.out 3; have hfz20_4 := blk_frozen BK205.out 4; have hfz20_5 := blk_frozen BK205.out 5; have hfz20_6 := blk_frozen BK205.out 6; have p206 : 0 ≤ (x5_1 : Int) := of_decide_eq_true (by first | (with_reducible assumption) | assumption); have q206 : x5_1 < (l0.length : Int) := of_decide_eq_true (by first | (with_reducible assumption) | assumption); obtain ⟨ad206, e206, hx206_0, hx206_1, hx206_2, hx206_3, hx206_4⟩ := at_T44 HR0.out x5_1 p206 q206; obtain rfl : ad203 = ad206 := (by injection e206); have hn206_0 : ad203.block ≠ gb205 := Nat.ne_of_lt (Nat.lt_of_lt_of_le (by have := World.block_lt_of_cell? _ _ hx206_0; first | rwa [add_block] at this | exact this) GW205.out); have hn206_1 : ad203.block ≠ gb205 := Nat.ne_of_lt (Nat.lt_of_lt_of_le (by have := World.block_lt_of_cell? _ _ hx206_0; first | rwa [add_block] at this | exact this) GW205.out); have hn206_2 : ad203.block ≠ gb205 := Nat.ne_of_lt (Nat.lt_of_lt_of_le (by have := World.block_lt_of_cell? _ _ hx206_0; first | rwa [add_block] at this | exact this) GW205.out); have hn206_3 : ad203.block ≠ gb205 := Nat.ne_of_lt (Nat.lt_of_lt_of_le (by have := World.block_lt_of_cell? _ _ hx206_0; first | rwa [add_block] at this | exact this) GW205.out); have hn206_4 : ad203.block ≠ gb205 := Nat.ne_of_lt (Nat.lt_of_lt_of_le (by have := World.block_lt_of_cell? _ _ hx206_0; first | rwa [add_block] at this | exact this) GW205.out); have hn206_5 : ad203.block ≠ gb205 := Nat.ne_of_lt (Nat.lt_of_lt_of_le (by have := World.block_lt_of_cell? _ _ hx206_0; first | rwa [add_block] at this | exact this) GW205.out); have hn206_6 : ad203.block ≠ gb205 := Nat.ne_of_lt (Nat.lt_of_lt_of_le (by have := World.block_lt_of_cell? _ _ hx206_0; first | rwa [add_block] at this | exact this) GW205.out); replace hx206_0 := (HB.out.cell (World.block_lt_of_cell? w _ hx206_0)).trans hx206_0; replace hx206_1 := (HB.out.cell (World.block_lt_of_cell? w _ hx206_1)).trans hx206_1; replace hx206_2 := (HB.out.cell (World.block_lt_of_cell? w _ hx206_2)).trans hx206_2; replace hx206_3 := (HB.out.cell (World.block_lt_of_cell? w _ hx206_3)).trans hx206_3; replace hx206_4 := (HB.out.cell (World.block_lt_of_cell? w _ hx206_4)).trans hx206_4; replace hx206_0 := (cell_far (p := ⟨gb205, 0, none⟩) (by first | (rw [add_block]; exact hn206_0) | (show (Addr.add _ _).block ≠ _; rw [add_block]; exact hn206_0) | exact hn206_0) (.int .i64 2)).trans hx206_0; replace hx206_1 := (cell_far (p := ⟨gb205, 0, none⟩) (by first | (rw [add_block]; exact hn206_0) | (show (Addr.add _ _).block ≠ _; rw [add_block]; exact hn206_0) | exact hn206_0) (.int .i64 2)).trans hx206_1; replace hx206_2 := (cell_far (p := ⟨gb205, 0, none⟩) (by first | (rw [add_block]; exact hn206_0) | (show (Addr.add _ _).block ≠ _; rw [add_block]; exact hn206_0) | exact hn206_0) (.int .i64 2)).trans hx206_2; replace hx206_3 := (cell_far (p := ⟨gb205, 0, none⟩) (by first | (rw [add_block]; exact hn206_0) | (show (Addr.add _ _).block ≠ _; rw [add_block]; exact hn206_0) | exact hn206_0) (.int .i64 2)).trans hx206_3; replace hx206_4 := (cell_far (p := ⟨gb205, 0, none⟩) (by first | (rw [add_block]; exact hn206_0) | (show (Addr.add _ _).block ≠ _; rw [add_block]; exact hn206_0) | exact hn206_0) (.int .i64 2)).trans hx206_4; replace hx206_0 := (cell_far (p := ⟨gb205, 1, none⟩) (by first | (rw [add_block]; exact hn206_1) | (show (Addr.add _ _).block ≠ _; rw [add_block]; exact hn206_1) | exact hn206_1) (.int .i64 x4_3)).trans hx206_0; replace hx206_1 := (cell_far (p := ⟨gb205, 1, none⟩) (by first | (rw [add_block]; exact hn206_1) | (show (Addr.add _ _).block ≠ _; rw [add_block]; exact hn206_1) | exact hn206_1) (.int .i64 x4_3)).trans hx206_1; replace hx206_2 := (cell_far (p := ⟨gb205, 1, none⟩) (by first | (rw [add_block]; exact hn206_1) | (show (Addr.add _ _).block ≠ _; rw [add_block]; exact hn206_1) | exact hn206_1) (.int .i64 x4_3)).trans hx206_2; replace hx206_3 := (cell_far (p := ⟨gb205, 1, none⟩) (by first | (rw [add_block]; exact hn206_1) | (show (Addr.add _ _).block ≠ _; rw [add_block]; exact hn206_1) | exact hn206_1) (.int .i64 x4_3)).trans hx206_3; replace hx206_4 := (cell_far (p := ⟨gb205, 1, none⟩) (by first | (rw [add_block]; exact hn206_1) | (show (Addr.add _ _).block ≠ _; rw [add_block]; exact hn206_1) | exact hn206_1) (.int .i64 x4_3)).trans hx206_4; replace hx206_0 := (cell_far (p := ⟨gb205, 2, none⟩) (by first | (rw [add_block]; exact hn206_2) | (show (Addr.add _ _).block ≠ _; rw [add_block]; exact hn206_2) | exact hn206_2) (.int .i64 (wrap64 (x4_3 + 1)))).trans hx206_0; replace hx206_1 := (cell_far (p := ⟨gb205, 2, none⟩) (by first | (rw [add_block]; exact hn206_2) | (show (Addr.add _ _).block ≠ _; rw [add_block]; exact hn206_2) | exact hn206_2) (.int .i64 (wrap64 (x4_3 + 1)))).trans hx206_1; replace hx206_2 := (cell_far (p := ⟨gb205, 2, none⟩) (by first | (rw [add_block]; exact hn206_2) | (show (Addr.add _ _).block ≠ _; rw [add_block]; exact hn206_2) | exact hn206_2) (.int .i64 (wrap64 (x4_3 + 1)))).trans hx206_2; replace hx206_3 := (cell_far (p := ⟨gb205, 2, none⟩) (by first | (rw [add_block]; exact hn206_2) | (show (Addr.add _ _).block ≠ _; rw [add_block]; exact hn206_2) | exact hn206_2) (.int .i64 (wrap64 (x4_3 + 1)))).trans hx206_3; replace hx206_4 := (cell_far (p := ⟨gb205, 2, none⟩) (by first | (rw [add_block]; exact hn206_2) | (show (Addr.add _ _).block ≠ _; rw [add_block]; exact hn206_2) | exact hn206_2) (.int .i64 (wrap64 (x4_3 + 1)))).trans hx206_4; replace hx206_0 := (cell_far (p := ⟨gb205, 3, none⟩) (by first | (rw [add_block]; exact hn206_3) | (show (Addr.add _ _).block ≠ _; rw [add_block]; exact hn206_3) | exact hn206_3) (.int .i64 0)).trans hx206_0; replace hx206_1 := (cell_far (p := ⟨gb205, 3, none⟩) (by first | (rw [add_block]; exact hn206_3) | (show (Addr.add _ _).block ≠ _; rw [add_block]; exact hn206_3) | exact hn206_3) (.int .i64 0)).trans hx206_1; replace hx206_2 := (cell_far (p := ⟨gb205, 3, none⟩) (by first | (rw [add_block]; exact hn206_3) | (show (Addr.add _ _).block ≠ _; rw [add_block]; exact hn206_3) | exact hn206_3) (.int .i64 0)).trans hx206_2; replace hx206_3 := (cell_far (p := ⟨gb205, 3, none⟩) (by first | (rw [add_block]; exact hn206_3) | (show (Addr.add _ _).block ≠ _; rw [add_block]; exact hn206_3) | exact hn206_3) (.int .i64 0)).trans hx206_3; replace hx206_4 := (cell_far (p := ⟨gb205, 3, none⟩) (by first | (rw [add_block]; exact hn206_3) | (show (Addr.add _ _).block ≠ _; rw [add_block]; exact hn206_3) | exact hn206_3) (.int .i64 0)).trans hx206_4; replace hx206_0 := (cell_far (p := ⟨gb205, 4, none⟩) (by first | (rw [add_block]; exact hn206_4) | (show (Addr.add _ _).block ≠ _; rw [add_block]; exact hn206_4) | exact hn206_4) (.int .i64 0)).trans hx206_0; replace hx206_1 := (cell_far (p := ⟨gb205, 4, none⟩) (by first | (rw [add_block]; exact hn206_4) | (show (Addr.add _ _).block ≠ _; rw [add_block]; exact hn206_4) | exact hn206_4) (.int .i64 0)).trans hx206_1; replace hx206_2 := (cell_far (p := ⟨gb205, 4, none⟩) (by first | (rw [add_block]; exact hn206_4) | (show (Addr.add _ _).block ≠ _; rw [add_block]; exact hn206_4) | exact hn206_4) (.int .i64 0)).trans hx206_2; replace hx206_3 := (cell_far (p := ⟨gb205, 4, none⟩) (by first | (rw [add_block]; exact hn206_4) | (show (Addr.add _ _).block ≠ _; rw [add_block]; exact hn206_4) | exact hn206_4) (.int .i64 0)).trans hx206_3; replace hx206_4 := (cell_far (p := ⟨gb205, 4, none⟩) (by first | (rw [add_block]; exact hn206_4) | (show (Addr.add _ _).block ≠ _; rw [add_block]; exact hn206_4) | exact hn206_4) (.int .i64 0)).trans hx206_4; replace hx206_0 := (cell_far (p := ⟨gb205, 5, none⟩) (by first | (rw [add_block]; exact hn206_5) | (show (Addr.add _ _).block ≠ _; rw [add_block]; exact hn206_5) | exact hn206_5) (.string (⟨#[]⟩ : ByteArray))).trans hx206_0; replace hx206_1 := (cell_far (p := ⟨gb205, 5, none⟩) (by first | (rw [add_block]; exact hn206_5) | (show (Addr.add _ _).block ≠ _; rw [add_block]; exact hn206_5) | exact hn206_5) (.string (⟨#[]⟩ : ByteArray))).trans hx206_1; replace hx206_2 := (cell_far (p := ⟨gb205, 5, none⟩) (by first | (rw [add_block]; exact hn206_5) | (show (Addr.add _ _).block ≠ _; rw [add_block]; exact hn206_5) | exact hn206_5) (.string (⟨#[]⟩ : ByteArray))).trans hx206_2; replace hx206_3 := (cell_far (p := ⟨gb205, 5, none⟩) (by first | (rw [add_block]; exact hn206_5) | (show (Addr.add _ _).block ≠ _; rw [add_block]; exact hn206_5) | exact hn206_5) (.string (⟨#[]⟩ : ByteArray))).trans hx206_3; replace hx206_4 := (cell_far (p := ⟨gb205, 5, none⟩) (by first | (rw [add_block]; exact hn206_5) | (show (Addr.add _ _).block ≠ _; rw [add_block]; exact hn206_5) | exact hn206_5) (.string (⟨#[]⟩ : ByteArray))).trans hx206_4; replace hx206_0 := (cell_far (p := ⟨gb205, 6, none⟩) (by first | (rw [add_block]; exact hn206_6) | (show (Addr.add _ _).block ≠ _; rw [add_block]; exact hn206_6) | exact hn206_6) (.int .i64 0)).trans hx206_0; replace hx206_1 := (cell_far (p := ⟨gb205, 6, none⟩) (by first | (rw [add_block]; exact hn206_6) | (show (Addr.add _ _).block ≠ _; rw [add_block]; exact hn206_6) | exact hn206_6) (.int .i64 0)).trans hx206_1; replace hx206_2 := (cell_far (p := ⟨gb205, 6, none⟩) (by first | (rw [add_block]; exact hn206_6) | (show (Addr.add _ _).block ≠ _; rw [add_block]; exact hn206_6) | exact hn206_6) (.int .i64 0)).trans hx206_2; replace hx206_3 := (cell_far (p := ⟨gb205, 6, none⟩) (by first | (rw [add_block]; exact hn206_6) | (show (Addr.add _ _).block ≠ _; rw [add_block]; exact hn206_6) | exact hn206_6) (.int .i64 0)).trans hx206_3; replace hx206_4 := (cell_far (p := ⟨gb205, 6, none⟩) (by first | (rw [add_block]; exact hn206_6) | (show (Addr.add _ _).block ≠ _; rw [add_block]; exact hn206_6) | exact hn206_6) (.int .i64 0)).trans hx206_4; clear hn206_0; clear hn206_1; clear hn206_2; clear hn206_3; clear hn206_4; clear hn206_5; clear hn206_6; replace p206 := eq_true p206; replace q206 := eq_true q206; have p12 : 0 ≤ (x6_3 : Int) := of_decide_eq_true (by first | (with_reducible assumption) | assumption); have q12 : x6_3 < (((rd_T44 l0 x5_1).f3).size : Int) := of_decide_eq_true (by first | (with_reducible assumption) | assumption); have hx12 := bt_at ((rd_T44 l0 x5_1).f3) x6_3; replace p12 := eq_true p12; replace q12 := eq_true q12) | ((with_reducible refine gate_builtin (b := .append) (xs := #[.tmp 45, .tmp 47]) rfl ?_); at_builtin; refine Kd.R_append k33 (w0 := w) w.heap.size rfl (.tmp 45) (.tmp 47) 24 33 (.agg #[(.int .i64 0), (.int .i64 0), (.int .i64 0), (.int .i64 0), (.int .i64 0), (.string ⟨#[]⟩), (.int .i64 0)]) 64 rfl Try.underlying24 info33 rfl (by decide) (by omega) u3 x3_3 (⟨2, x4_3, wrap64 (x4_3 + 1), 0, 0, (⟨#[]⟩ : ByteArray), 0⟩ : S33) [.int .i64 2, .int .i64 x4_3, .int .i64 (wrap64 (x4_3 + 1)), .int .i64 0, .int .i64 0, .string (⟨#[]⟩ : ByteArray), .int .i64 0] (fun k_ => k_ ≠ gb205) (fun _ => False) rfl (by first | (go_simp; done) | (go_simp; rfl)) ?aP (fun _ hk => hk.elim) ?aF ?aO ?aB ?aS ?aL ?_; (case aP => exact k33_mkM _ _ _ (⟨2, x4_3, wrap64 (x4_3 + 1), 0, 0, (⟨#[]⟩ : ByteArray), 0⟩ : S33)); (case aB => exact (hbw HB.out)); (case aF => exact (fun k_ hk => Kd.freshB (g := gb205) (o := .cells #[.int .i64 2, .int .i64 x4_3, .int .i64 (wrap64 (x4_3 + 1)), .int .i64 0, .int .i64 0, .string (⟨#[]⟩ : ByteArray), .int .i64 0] 33 (0, 0)) (by (with_reducible repeat (first | refine blk_drewN ?_ _ | refine blk_drew ?_ | refine blk_alloc ?_ _)); refine blk_put (cs := #[.int .i64 2, .int .i64 x4_3, .int .i64 (wrap64 (x4_3 + 1)), .int .i64 0, .int .i64 0, .string (⟨#[]⟩ : ByteArray), .int .i64 0]) ?_ 6 _ rfl; (with_reducible repeat (first | refine blk_drewN ?_ _ | refine blk_drew ?_ | refine blk_alloc ?_ _)); refine blk_put (cs := #[.int .i64 2, .int .i64 x4_3, .int .i64 (wrap64 (x4_3 + 1)), .int .i64 0, .int .i64 0, .string (⟨#[]⟩ : ByteArray), .int .i64 0]) ?_ 5 _ rfl; (with_reducible repeat (first | refine blk_drewN ?_ _ | refine blk_drew ?_ | refine blk_alloc ?_ _)); refine blk_put (cs := #[.int .i64 2, .int .i64 x4_3, .int .i64 (wrap64 (x4_3 + 1)), .int .i64 0, .int .i64 0, .string (⟨#[]⟩ : ByteArray), .int .i64 0]) ?_ 4 _ rfl; (with_reducible repeat (first | refine blk_drewN ?_ _ | refine blk_drew ?_ | refine blk_alloc ?_ _)); refine blk_put (cs := #[.int .i64 2, .int .i64 x4_3, .int .i64 (wrap64 (x4_3 + 1)), .int .i64 0, .int .i64 0, .string (⟨#[]⟩ : ByteArray), .int .i64 0]) ?_ 3 _ rfl; (with_reducible repeat (first | refine blk_drewN ?_ _ | refine blk_drew ?_ | refine blk_alloc ?_ _)); refine blk_put (cs := #[.int .i64 2, .int .i64 x4_3, .int .i64 0, .int .i64 0, .int .i64 0, .string (⟨#[]⟩ : ByteArray), .int .i64 0]) ?_ 2 _ rfl; (with_reducible repeat (first | refine blk_drewN ?_ _ | refine blk_drew ?_ | refine blk_alloc ?_ _)); refine blk_put (cs := #[.int .i64 2, .int .i64 0, .int .i64 0, .int .i64 0, .int .i64 0, .string (⟨#[]⟩ : ByteArray), .int .i64 0]) ?_ 1 _ rfl; (with_reducible repeat (first | refine blk_drewN ?_ _ | refine blk_drew ?_ | refine blk_alloc ?_ _)); refine blk_put (cs := #[.int .i64 0, .int .i64 0, .int .i64 0, .int .i64 0, .int .i64 0, .string (⟨#[]⟩ : ByteArray), .int .i64 0]) ?_ 0 _ rfl; (with_reducible repeat (first | refine blk_drewN ?_ _ | refine blk_drew ?_ | refine blk_alloc ?_ _)); exact BK205.out) k_ hk)); (case aO => exact (by (with_reducible repeat (first | apply Kd.R_alloc | apply Kd.R_drewN | apply Kd.R_drew)); exact Kd.R_mono (Kd.R_far (p := ⟨gb205, 6, none⟩) (Kd.R_far (p := ⟨gb205, 5, none⟩) (Kd.R_far (p := ⟨gb205, 4, none⟩) (Kd.R_far (p := ⟨gb205, 3, none⟩) (Kd.R_far (p := ⟨gb205, 2, none⟩) (Kd.R_far (p := ⟨gb205, 1, none⟩) (Kd.R_far (p := ⟨gb205, 0, none⟩) (Kd.R_mono HO_3.out (fun k_ hk => (⟨hk, hk.2⟩ : _ ∧ k_ ≠ gb205))) (fun _ hk => hk.2) (.int .i64 2)) (fun _ hk => hk.2) (.int .i64 x4_3)) (fun _ hk => hk.2) (.int .i64 (wrap64 (x4_3 + 1)))) (fun _ hk => hk.2) (.int .i64 0)) (fun _ hk => hk.2) (.int .i64 0)) (fun _ hk => hk.2) (.string (⟨#[]⟩ : ByteArray))) (fun _ hk => hk.2) (.int .i64 0)) (fun _ hk => hk.1.2))); (case aS => exact (below_size (hbw HB.out))); (case aL => have := LMc18.out; omega); intro v211 w21 ho hb hg hat; rw [← Ny210.out] at ho; have n0_ := Aside0.mk (blk_grown (g := gb205) (o := .cells #[.int .i64 2, .int .i64 x4_3, .int .i64 (wrap64 (x4_3 + 1)), .int .i64 0, .int .i64 0, .string (⟨#[]⟩ : ByteArray), .int .i64 0] 33 (0, 0)) (by (with_reducible repeat (first | refine blk_drewN ?_ _ | refine blk_drew ?_ | refine blk_alloc ?_ _)); refine blk_put (cs := #[.int .i64 2, .int .i64 x4_3, .int .i64 (wrap64 (x4_3 + 1)), .int .i64 0, .int .i64 0, .string (⟨#[]⟩ : ByteArray), .int .i64 0]) ?_ 6 _ rfl; (with_reducible repeat (first | refine blk_drewN ?_ _ | refine blk_drew ?_ | refine blk_alloc ?_ _)); refine blk_put (cs := #[.int .i64 2, .int .i64 x4_3, .int .i64 (wrap64 (x4_3 + 1)), .int .i64 0, .int .i64 0, .string (⟨#[]⟩ : ByteArray), .int .i64 0]) ?_ 5 _ rfl; (with_reducible repeat (first | refine blk_drewN ?_ _ | refine blk_drew ?_ | refine blk_alloc ?_ _)); refine blk_put (cs := #[.int .i64 2, .int .i64 x4_3, .int .i64 (wrap64 (x4_3 + 1)), .int .i64 0, .int .i64 0, .string (⟨#[]⟩ : ByteArray), .int .i64 0]) ?_ 4 _ rfl; (with_reducible repeat (first | refine blk_drewN ?_ _ | refine blk_drew ?_ | refine blk_alloc ?_ _)); refine blk_put (cs := #[.int .i64 2, .int .i64 x4_3, .int .i64 (wrap64 (x4_3 + 1)), .int .i64 0, .int .i64 0, .string (⟨#[]⟩ : ByteArray), .int .i64 0]) ?_ 3 _ rfl; (with_reducible repeat (first | refine blk_drewN ?_ _ | refine blk_drew ?_ | refine blk_alloc ?_ _)); refine blk_put (cs := #[.int .i64 2, .int .i64 x4_3, .int .i64 0, .int .i64 0, .int .i64 0, .string (⟨#[]⟩ : ByteArray), .int .i64 0]) ?_ 2 _ rfl; (with_reducible repeat (first | refine blk_drewN ?_ _ | refine blk_drew ?_ | refine blk_alloc ?_ _)); refine blk_put (cs := #[.int .i64 2, .int .i64 0, .int .i64 0, .int .i64 0, .int .i64 0, .string (⟨#[]⟩ : ByteArray), .int .i64 0]) ?_ 1 _ rfl; (with_reducible repeat (first | refine blk_drewN ?_ _ | refine blk_drew ?_ | refine blk_alloc ?_ _)); refine blk_put (cs := #[.int .i64 0, .int .i64 0, .int .i64 0, .int .i64 0, .int .i64 0, .string (⟨#[]⟩ : ByteArray), .int .i64 0]) ?_ 0 _ rfl; (with_reducible repeat (first | refine blk_drewN ?_ _ | refine blk_drew ?_ | refine blk_alloc ?_ _)); exact BK205.out) hg (Kd.R_away HO_3.out (fun _ hk => hk.2))); have n1_ := Aside0.mk (hb); have n2_ := Aside0.mk (ho); clear BK205; clear HB; clear HO_3; have BK205 := n0_; have HB := n1_; have HO212 := n2_; clear n0_ n1_ n2_; clear ho hb hg hat))
               go_roundg k3
               case measure => have := HK1.out; have := HJ3.out; have := HK3.out; omega
               case rel => exact ⟨(y210), (wrap64 (x4_3 + 1)), (wrap64 (x6_3 + 1)), (by first | rfl | (simp; done) | (simp [*]; done)), (by first | rfl | (simp; done) | (simp [*]; done)), H', ⟨by have := HK1.out; have := HJ3.out; have := HK3.out; omega⟩, ⟨by (with_reducible repeat (first | apply Kd.R_alloc | apply Kd.R_drewN | apply Kd.R_drew)); exact Kd.R_mono HO212.out (fun _ hk => trivial)⟩, ⟨by repeat (first | (with_reducible first | exact HB.out | apply below_alloc | apply pw_below_drewN | apply below_drew1 | refine below_set ?_ GE205.out) | exact HB.out)⟩⟩
              ·rw [if_neg c18] at H
               exact absurd H (by simp)
            ·rw [if_neg c11] at H
             exact absurd H (by simp)
           ·rw [if_neg c10] at H
            have c10b0 : decide (x6_3 < (((rd_T44 l0 x5_1).f3).size : Int)) = false := decide_eq_false c10
            clear c10
            have H' := Aside0.mk H
            clear H
            have p204 : 0 ≤ (x5_1 : Int) := of_decide_eq_true (by first | (with_reducible assumption) | assumption)
            have q204 : x5_1 < (l0.length : Int) := of_decide_eq_true (by first | (with_reducible assumption) | assumption)
            obtain ⟨ad204, e204, hx204_0, hx204_1, hx204_2, hx204_3, hx204_4⟩ := at_T44 HR0.out x5_1 p204 q204
            obtain rfl : ad203 = ad204 := (by injection e204)
            replace hx204_0 := (HB.out.cell (World.block_lt_of_cell? w _ hx204_0)).trans hx204_0
            replace hx204_1 := (HB.out.cell (World.block_lt_of_cell? w _ hx204_1)).trans hx204_1
            replace hx204_2 := (HB.out.cell (World.block_lt_of_cell? w _ hx204_2)).trans hx204_2
            replace hx204_3 := (HB.out.cell (World.block_lt_of_cell? w _ hx204_3)).trans hx204_3
            replace hx204_4 := (HB.out.cell (World.block_lt_of_cell? w _ hx204_4)).trans hx204_4
            replace p204 := eq_true p204
            replace q204 := eq_true q204
            go_wp2
            go_roundg k3
            case measure => have := HK1.out; have := HJ3.out; have := HK3.out; omega
            case rel => exact ⟨(x3_3), (x4_3), (wrap64 (x5_1 + 1)), (by first | rfl | (simp; done) | (simp [*]; done)), (by first | rfl | (simp; done) | (simp [*]; done)), H', ⟨by have := HK1.out; have := HJ3.out; have := HK3.out; omega⟩, ⟨by (with_reducible repeat (first | apply Kd.R_alloc | apply Kd.R_drewN | apply Kd.R_drew)); exact HO_3.out⟩, ⟨by repeat (first | (with_reducible first | exact HB.out | apply below_alloc | apply pw_below_drewN | apply below_drew1) | exact HB.out)⟩⟩
          ·rw [if_neg c9] at H
           exact absurd H (by simp)
         ·rw [if_neg c8] at H
          exact absurd H (by simp)
      ·rw [if_neg c7] at H
       exact absurd H (by simp)
     ·rw [if_neg c6] at H
      exact absurd H (by simp)

end Go.Proofs.Ytjgfhccibljkbaa.PNrziRoundTrips
