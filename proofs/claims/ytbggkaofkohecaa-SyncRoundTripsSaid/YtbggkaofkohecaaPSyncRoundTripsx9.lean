-- Written by a program of this session (wip/tools/pr.py), which calls the kit's print with changes of its own.
import Derived.Test.YtbggkaofkohecaaPSyncRoundTripsx0
import Derived.Test.YtbggkaofkohecaaPSyncRoundTripsx1
import Derived.Test.YtbggkaofkohecaaPSyncRoundTripsx2
import Derived.Test.YtbggkaofkohecaaPSyncRoundTripsx6
import Derived.Test.YtbggkaofkohecaaPSyncRoundTripsx8
namespace Go.Proofs.Ytbggkaofkohecaa.PSyncRoundTrips
open Go.RowKit Go.Proofs.YtbggkaofkohecaaW.PrintWords Go.Proofs.YtbggkaofkohecaaW.PrintLast Go.Proofs.YtbggkaofkohecaaW.PrintMore
attribute [local go_sem] max2_int min2_int max_two min_two max_three min_three max_four min_four   -- for this text's walks alone
set_option linter.unusedVariables false
set_option linter.unusedSimpArgs false

attribute [local go_sem high] eqA32
/-! ### signalbenchlaw21_events: function 25 -/
mutual
def signalbenchlaw21_events.l0 : Nat → List (S46) → Int → List (S32) → Int → Int → Option ((List (S32)))
 | 0, _, _, _, _, _ => none
 | k + 1, x0, x1, x5, x6, x7 => if x7 < (x0.length : Int) then (if 0 ≤ x7 then (signalbenchlaw21_events.l1 k x0 x1 x5 (wrap64 (x6 + ((rd_T46 x0 x7).f0))) x7 0) else (none)) else (some x5)
def signalbenchlaw21_events.l1 : Nat → List (S46) → Int → List (S32) → Int → Int → Int → Option ((List (S32)))
 | 0, _, _, _, _, _, _ => none
 | k + 1, x0, x1, x5, x6, x7, x8 => if 0 ≤ x7 then (if x7 < (x0.length : Int) then (if x8 < (((rd_T46 x0 x7).f3).size : Int) then (if 0 ≤ x8 then (if x5.length < 2199023255552 then (signalbenchlaw21_events.l1 k x0 x1 (x5 ++ [(⟨2, x6, wrap64 (x6 + x1), ((bt ((rd_T46 x0 x7).f3) x8) - 48) % 256, 0, (⟨#[]⟩ : ByteArray), 0⟩ : S32)]) (wrap64 (x6 + x1)) x7 (wrap64 (x8 + 1))) else (none)) else (none)) else (signalbenchlaw21_events.l0 k x0 x1 x5 x6 (wrap64 (x7 + 1)))) else (none)) else (none)
end
def signalbenchlaw21_events.f (k : Nat) (l0 : List (S46)) (a1 : Int) : Option ((List (S32))) := signalbenchlaw21_events.l0 k l0 a1 (([] : List (S32))) 0 0
theorem signalbenchlaw21_events.mono_l : ∀ k, (∀ y0 y1 y2 y3 y4, LeO (signalbenchlaw21_events.l0 k y0 y1 y2 y3 y4) (signalbenchlaw21_events.l0 (k + 1) y0 y1 y2 y3 y4)) ∧ (∀ y0 y1 y2 y3 y4 y5, LeO (signalbenchlaw21_events.l1 k y0 y1 y2 y3 y4 y5) (signalbenchlaw21_events.l1 (k + 1) y0 y1 y2 y3 y4 y5))
 | 0 => ⟨fun _ _ _ _ _ r h => by simp [signalbenchlaw21_events.l0] at h, fun _ _ _ _ _ _ r h => by simp [signalbenchlaw21_events.l1] at h⟩
 | k + 1 => by
  obtain ⟨ih0, ih1⟩ := signalbenchlaw21_events.mono_l k
  refine ⟨?_, ?_⟩
  ·intro y0 y1 y2 y3 y4
   unfold signalbenchlaw21_events.l0
   repeat' first
   | (with_reducible exact ih0 _ _ _ _ _)
   | (with_reducible exact ih1 _ _ _ _ _ _)
   | (with_reducible exact LeO.refl _)
   | (with_reducible exact LeO.none _)
   | (with_reducible refine LeO.ite ?_ ?_)
   | (with_reducible refine LeO.bind ?_ (fun _ => ?_))
   | exact ih0 _ _ _ _ _
   | exact ih1 _ _ _ _ _ _
   | exact LeO.none _
   | refine LeO.ite ?_ ?_
   | refine LeO.bind ?_ (fun _ => ?_)
  ·intro y0 y1 y2 y3 y4 y5
   unfold signalbenchlaw21_events.l1
   repeat' first
   | (with_reducible exact ih0 _ _ _ _ _)
   | (with_reducible exact ih1 _ _ _ _ _ _)
   | (with_reducible exact LeO.refl _)
   | (with_reducible exact LeO.none _)
   | (with_reducible refine LeO.ite ?_ ?_)
   | (with_reducible refine LeO.bind ?_ (fun _ => ?_))
   | exact ih0 _ _ _ _ _
   | exact ih1 _ _ _ _ _ _
   | exact LeO.none _
   | refine LeO.ite ?_ ?_
   | refine LeO.bind ?_ (fun _ => ?_)
theorem signalbenchlaw21_events.mono : ∀ a0 a1 k, LeO (signalbenchlaw21_events.f k a0 a1) (signalbenchlaw21_events.f (k + 1) a0 a1) := by
 intro a0 a1 k
 obtain ⟨ih0, ih1⟩ := signalbenchlaw21_events.mono_l k
 unfold signalbenchlaw21_events.f
 repeat' first
   | (with_reducible exact ih0 _ _ _ _ _)
   | (with_reducible exact ih1 _ _ _ _ _ _)
   | (with_reducible exact LeO.refl _)
   | (with_reducible exact LeO.none _)
   | (with_reducible refine LeO.ite ?_ ?_)
   | (with_reducible refine LeO.bind ?_ (fun _ => ?_))
   | exact ih0 _ _ _ _ _
   | exact ih1 _ _ _ _ _ _
   | exact LeO.none _
   | refine LeO.ite ?_ ?_
   | refine LeO.bind ?_ (fun _ => ?_)
set_option maxHeartbeats 8000000 in
set_option maxRecDepth 100000 in
theorem signalbenchlaw21_events.calls (k : Nat) (A0 : Option Addr) (c0 : Nat) (l0 : List (S46)) (a1 : Int) (r : List (S32)) (w : World) (hr0 : Kd.C k46 w A0 l0.length l0) (hc0 : l0.length ≤ c0) (h : signalbenchlaw21_events.f k l0 a1 = some r) :
  Calls Try.prog 25 #[.slice A0 l0.length c0, .int .i64 a1] w fun e w' => ∃ v0_ : Value, e = .returned (v0_) ∧ Kd.R k32 32 w' w.heap.size (fun _ => True) v0_ r ∧ Below w.heap.size w w' := by
 have hu32 := Try.underlying32
 have HR0 := Aside0.mk hr0
 have HC0 := Aside0.mk hc0
 clear hr0 hc0
 have HB := Aside0.mk (Below.refl w.heap.size w)
 have H : (signalbenchlaw21_events.l0 k l0 a1 (([] : List (S32))) 0 0) = some r := h
 clear h
 obtain ⟨y256, hy256⟩ : ∃ y_ : List (S32), y_ = (([] : List (S32))) := ⟨_, rfl⟩
 replace H : (signalbenchlaw21_events.l0 k l0 a1 y256 0 0) = some r := by first | (rw [hy256]; with_reducible exact H) | (have H2_ := (Option.bind_some _ _).symm.trans H; rw [hy256]; with_reducible exact H2_) | (have H2_ := (Option.bind_some _ _).symm.trans H; with_reducible exact H2_) | with_reducible exact H | (rw [hy256]; exact H) | exact H
 have Ny256 := Aside0.mk hy256
 clear hy256
 have H' := Aside0.mk H
 clear H
 go_enter Try.func25, Try.ntmps25
 go_wp2_with (first | ((with_reducible refine gate_dst (N := 9) rfl ?_); refine Kd.R_lit k32 _ 32 ?hg (N := 9) ?hd (xs := ([] : List (S32))) (inner := []) (ok := fun _ => True) (okp := fun _ => True) ?hr ?hp (fun _ hk => hk) trivial (Below.refl _ _) (Nat.le_refl _) (by simp) ?_; (case hd => rfl); (case hg => rfl); (case hr => first | (go_simp; done) | (go_simp; rfl)); (case hp => exact (Reps.none _ _)); intro v257 w3 ho4 hb hg_ hnew_; clear hg_ hnew_; (first | rw [← Ny256.out] at ho4 | (simp only [Int.reduceToNat] at ho4; rw [← Ny256.out] at ho4)); have n0_ := Aside0.mk (Kd.R_lower ho4 (below_size (hbw HB.out))); have n1_ := Aside0.mk (below_step (hbw HB.out) hb); clear HB; have HO258 := n0_; have HB := n1_; clear n0_ n1_; clear hb ho4))
 go_loopg [5, 6, 7] k (fun kq v5 v6 v7 w' => ∃ (x5_1 : List (S32)) (x6_1 : Int) (x7_1 : Int), v6 = .int .i64 x6_1 ∧ v7 = .int .i64 x7_1 ∧ Aside0 (signalbenchlaw21_events.l0 kq l0 a1 x5_1 x6_1 x7_1 = some r) ∧ Aside0 (kq ≤ k) ∧ Aside0 (Kd.R k32 32 w' w.heap.size (fun _ => True) v5 x5_1) ∧ Aside0 (Below w.heap.size w w'))
 case atStart => exact ⟨(y256), (0), (0), (by first | rfl | (simp; done) | (simp [*]; done)), (by first | rfl | (simp; done) | (simp [*]; done)), H', ⟨Nat.le_refl _⟩, ⟨by (with_reducible repeat (first | apply Kd.R_alloc | apply Kd.R_drewN | apply Kd.R_drew)); exact HO258.out⟩, ⟨by repeat (first | (with_reducible first | exact HB.out | apply below_alloc | apply pw_below_drewN | apply below_drew1) | exact HB.out)⟩⟩
 case round =>
  clear H'
  try clear c2
  try clear p2
  obtain ⟨x5_1, x6_1, x7_1, rfl, rfl, HA, HK1, HO_5, HB⟩ := hrel
  cases gk with
  | zero => exact absurd HA.out (by simp [signalbenchlaw21_events.l0])
  | succ k1 =>
   have H := HA.out
   clear HA
   simp only [signalbenchlaw21_events.l0] at H
   by_cases c5 : x7_1 < (l0.length : Int)
   ·rw [if_pos c5] at H
    have c5b0 : decide (x7_1 < (l0.length : Int)) = true := decide_eq_true c5
    clear c5
    by_cases c6 : 0 ≤ x7_1
    ·rw [if_pos c6] at H
     have c6b0 : decide (0 ≤ x7_1) = true := decide_eq_true c6
     clear c6
     have H' := Aside0.mk H
     clear H
     have p259 : 0 ≤ (x7_1 : Int) := of_decide_eq_true (by first | (with_reducible assumption) | assumption)
     have q259 : x7_1 < (l0.length : Int) := of_decide_eq_true (by first | (with_reducible assumption) | assumption)
     obtain ⟨ad259, e259, hx259_0, hx259_1, hx259_2, hx259_3, hx259_4⟩ := at_T46 HR0.out x7_1 p259 q259
     cases e259
     replace hx259_0 := (HB.out.cell (World.block_lt_of_cell? w _ hx259_0)).trans hx259_0
     replace hx259_1 := (HB.out.cell (World.block_lt_of_cell? w _ hx259_1)).trans hx259_1
     replace hx259_2 := (HB.out.cell (World.block_lt_of_cell? w _ hx259_2)).trans hx259_2
     replace hx259_3 := (HB.out.cell (World.block_lt_of_cell? w _ hx259_3)).trans hx259_3
     replace hx259_4 := (HB.out.cell (World.block_lt_of_cell? w _ hx259_4)).trans hx259_4
     replace p259 := eq_true p259
     replace q259 := eq_true q259
     go_wp2
     go_loopg [5, 6, 8] k1 (fun kq v5 v6 v8 w' => ∃ (x5_2 : List (S32)) (x6_2 : Int) (x8_2 : Int), v6 = .int .i64 x6_2 ∧ v8 = .int .i64 x8_2 ∧ Aside0 (signalbenchlaw21_events.l1 kq l0 a1 x5_2 x6_2 x7_1 x8_2 = some r) ∧ Aside0 (kq ≤ k1) ∧ Aside0 (Kd.R k32 32 w' w.heap.size (fun _ => True) v5 x5_2) ∧ Aside0 (Below w.heap.size w w'))
     case atStart => exact ⟨(x5_1), (wrap64 (x6_1 + ((rd_T46 l0 x7_1).f0))), (0), (by first | rfl | (simp; done) | (simp [*]; done)), (by first | rfl | (simp; done) | (simp [*]; done)), H', ⟨Nat.le_refl _⟩, ⟨by (with_reducible repeat (first | apply Kd.R_alloc | apply Kd.R_drewN | apply Kd.R_drew)); exact HO_5.out⟩, ⟨by repeat (first | (with_reducible first | exact HB.out | apply below_alloc | apply pw_below_drewN | apply below_drew1) | exact HB.out)⟩⟩
     case round =>
      clear H'
      try clear c2
      try clear p2
      try clear q2
      try clear hx2
      try clear c5
      try clear c5b0
      try clear c6
      try clear c6b0
      try clear p6
      try clear hx259_0
      try clear hx259_1
      try clear hx259_2
      try clear hx259_3
      try clear hx259_4
      try clear p2
      try clear p259
      try clear q259
      obtain ⟨x5_2, x6_2, x8_2, rfl, rfl, HA, HK2, HO_5, HB⟩ := hrel
      cases gk with
      | zero => exact absurd HA.out (by simp [signalbenchlaw21_events.l1])
      | succ k2 =>
       have H := HA.out
       clear HA
       simp only [signalbenchlaw21_events.l1] at H
       by_cases c7 : 0 ≤ x7_1
       ·rw [if_pos c7] at H
        have c7b0 : decide (0 ≤ x7_1) = true := decide_eq_true c7
        clear c7
        by_cases c8 : x7_1 < (l0.length : Int)
        ·rw [if_pos c8] at H
         have c8b0 : decide (x7_1 < (l0.length : Int)) = true := decide_eq_true c8
         clear c8
         by_cases c9 : x8_2 < (((rd_T46 l0 x7_1).f3).size : Int)
         ·rw [if_pos c9] at H
          have c9b0 : decide (x8_2 < (((rd_T46 l0 x7_1).f3).size : Int)) = true := decide_eq_true c9
          clear c9
          by_cases c10 : 0 ≤ x8_2
          ·rw [if_pos c10] at H
           have c10b0 : decide (0 ≤ x8_2) = true := decide_eq_true c10
           clear c10
           by_cases c12 : x5_2.length < 2199023255552
           ·rw [if_pos c12] at H
            have LMc12 := Aside0.mk c12
            clear c12
            obtain ⟨y262, hy262⟩ : ∃ y_ : List (S32), y_ = (x5_2 ++ [(⟨2, x6_2, wrap64 (x6_2 + a1), ((bt ((rd_T46 l0 x7_1).f3) x8_2) - 48) % 256, 0, (⟨#[]⟩ : ByteArray), 0⟩ : S32)]) := ⟨_, rfl⟩
            replace H : (signalbenchlaw21_events.l1 k2 l0 a1 y262 (wrap64 (x6_2 + a1)) x7_1 (wrap64 (x8_2 + 1))) = some r := by first | (rw [hy262]; with_reducible exact H) | (have H2_ := (Option.bind_some _ _).symm.trans H; rw [hy262]; with_reducible exact H2_) | (have H2_ := (Option.bind_some _ _).symm.trans H; with_reducible exact H2_) | with_reducible exact H | (rw [hy262]; exact H) | exact H
            have Ny262 := Aside0.mk hy262
            clear hy262
            have H' := Aside0.mk H
            clear H
            have p260 : 0 ≤ (x7_1 : Int) := of_decide_eq_true (by first | (with_reducible assumption) | assumption)
            have q260 : x7_1 < (l0.length : Int) := of_decide_eq_true (by first | (with_reducible assumption) | assumption)
            obtain ⟨ad260, e260, hx260_0, hx260_1, hx260_2, hx260_3, hx260_4⟩ := at_T46 HR0.out x7_1 p260 q260
            obtain rfl : ad259 = ad260 := (by injection e260)
            replace hx260_0 := (HB.out.cell (World.block_lt_of_cell? w _ hx260_0)).trans hx260_0
            replace hx260_1 := (HB.out.cell (World.block_lt_of_cell? w _ hx260_1)).trans hx260_1
            replace hx260_2 := (HB.out.cell (World.block_lt_of_cell? w _ hx260_2)).trans hx260_2
            replace hx260_3 := (HB.out.cell (World.block_lt_of_cell? w _ hx260_3)).trans hx260_3
            replace hx260_4 := (HB.out.cell (World.block_lt_of_cell? w _ hx260_4)).trans hx260_4
            replace p260 := eq_true p260
            replace q260 := eq_true q260
            have p261 : 0 ≤ (x7_1 : Int) := of_decide_eq_true (by first | (with_reducible assumption) | assumption)
            have q261 : x7_1 < (l0.length : Int) := of_decide_eq_true (by first | (with_reducible assumption) | assumption)
            obtain ⟨ad261, e261, hx261_0, hx261_1, hx261_2, hx261_3, hx261_4⟩ := at_T46 HR0.out x7_1 p261 q261
            obtain rfl : ad259 = ad261 := (by injection e261)
            replace hx261_0 := (HB.out.cell (World.block_lt_of_cell? w _ hx261_0)).trans hx261_0
            replace hx261_1 := (HB.out.cell (World.block_lt_of_cell? w _ hx261_1)).trans hx261_1
            replace hx261_2 := (HB.out.cell (World.block_lt_of_cell? w _ hx261_2)).trans hx261_2
            replace hx261_3 := (HB.out.cell (World.block_lt_of_cell? w _ hx261_3)).trans hx261_3
            replace hx261_4 := (HB.out.cell (World.block_lt_of_cell? w _ hx261_4)).trans hx261_4
            replace p261 := eq_true p261
            replace q261 := eq_true q261
            have p11 : 0 ≤ (x8_2 : Int) := of_decide_eq_true (by first | (with_reducible assumption) | assumption)
            have q11 : x8_2 < (((rd_T46 l0 x7_1).f3).size : Int) := of_decide_eq_true (by first | (with_reducible assumption) | assumption)
            have hx11 := bt_at ((rd_T46 l0 x7_1).f3) x8_2
            replace p11 := eq_true p11
            replace q11 := eq_true q11
            go_wp2_with (first | ((with_reducible refine gate_builtin (b := .append) (xs := #[.tmp 33, .tmp 48]) rfl ?_); at_builtin; refine Kd.R_append k32 (w0 := w) w.heap.size rfl (.tmp 33) (.tmp 48) 24 32 (.agg #[(.int .i64 0), (.int .i64 0), (.int .i64 0), (.int .i64 0), (.int .i64 0), (.string ⟨#[]⟩), (.int .i64 0)]) 64 rfl Try.underlying24 info32 rfl (by decide) (by omega) u5 x5_2 (⟨2, x6_2, wrap64 (x6_2 + a1), ((bt ((rd_T46 l0 x7_1).f3) x8_2) - 48) % 256, 0, (⟨#[]⟩ : ByteArray), 0⟩ : S32) [.int .i64 2, .int .i64 x6_2, .int .i64 (wrap64 (x6_2 + a1)), .int .i64 (((bt ((rd_T46 l0 x7_1).f3) x8_2) - 48) % 256), .int .i64 0, .string (⟨#[]⟩ : ByteArray), .int .i64 0] (fun _ => True) (fun _ => False) rfl rfl ?aP (fun _ hk => hk.elim) ?aF ?aO ?aB ?aS ?aL ?_; (case aP => exact k32_mkM _ _ _ (⟨2, x6_2, wrap64 (x6_2 + a1), ((bt ((rd_T46 l0 x7_1).f3) x8_2) - 48) % 256, 0, (⟨#[]⟩ : ByteArray), 0⟩ : S32)); (case aB => exact (hbw HB.out)); (case aF => exact (fun _ _ => trivial)); (case aO => exact (rkw HO_5.out)); (case aS => exact (below_size (hbw HB.out))); (case aL => have := LMc12.out; omega); intro v263 w13 ho hb hg hat; rw [← Ny262.out] at ho; have n0_ := Aside0.mk (hb); have n1_ := Aside0.mk (ho); clear HB; clear HO_5; have HB := n0_; have HO264 := n1_; clear n0_ n1_; clear ho hb hg hat))
            go_roundg k2
            case measure => have := HK1.out; have := HK2.out; omega
            case rel => exact ⟨(y262), (wrap64 (x6_2 + a1)), (wrap64 (x8_2 + 1)), (by first | rfl | (simp; done) | (simp [*]; done)), (by first | rfl | (simp; done) | (simp [*]; done)), H', ⟨by have := HK1.out; have := HK2.out; omega⟩, ⟨by (with_reducible repeat (first | apply Kd.R_alloc | apply Kd.R_drewN | apply Kd.R_drew)); exact HO264.out⟩, ⟨by repeat (first | (with_reducible first | exact HB.out | apply below_alloc | apply pw_below_drewN | apply below_drew1) | exact HB.out)⟩⟩
           ·rw [if_neg c12] at H
            exact absurd H (by simp)
          ·rw [if_neg c10] at H
           exact absurd H (by simp)
         ·rw [if_neg c9] at H
          have c9b0 : decide (x8_2 < (((rd_T46 l0 x7_1).f3).size : Int)) = false := decide_eq_false c9
          clear c9
          have H' := Aside0.mk H
          clear H
          have p260 : 0 ≤ (x7_1 : Int) := of_decide_eq_true (by first | (with_reducible assumption) | assumption)
          have q260 : x7_1 < (l0.length : Int) := of_decide_eq_true (by first | (with_reducible assumption) | assumption)
          obtain ⟨ad260, e260, hx260_0, hx260_1, hx260_2, hx260_3, hx260_4⟩ := at_T46 HR0.out x7_1 p260 q260
          obtain rfl : ad259 = ad260 := (by injection e260)
          replace hx260_0 := (HB.out.cell (World.block_lt_of_cell? w _ hx260_0)).trans hx260_0
          replace hx260_1 := (HB.out.cell (World.block_lt_of_cell? w _ hx260_1)).trans hx260_1
          replace hx260_2 := (HB.out.cell (World.block_lt_of_cell? w _ hx260_2)).trans hx260_2
          replace hx260_3 := (HB.out.cell (World.block_lt_of_cell? w _ hx260_3)).trans hx260_3
          replace hx260_4 := (HB.out.cell (World.block_lt_of_cell? w _ hx260_4)).trans hx260_4
          replace p260 := eq_true p260
          replace q260 := eq_true q260
          go_wp2
          go_roundg k2
          case measure => have := HK1.out; have := HK2.out; omega
          case rel => exact ⟨(x5_2), (x6_2), (wrap64 (x7_1 + 1)), (by first | rfl | (simp; done) | (simp [*]; done)), (by first | rfl | (simp; done) | (simp [*]; done)), H', ⟨by have := HK1.out; have := HK2.out; omega⟩, ⟨by (with_reducible repeat (first | apply Kd.R_alloc | apply Kd.R_drewN | apply Kd.R_drew)); exact HO_5.out⟩, ⟨by repeat (first | (with_reducible first | exact HB.out | apply below_alloc | apply pw_below_drewN | apply below_drew1) | exact HB.out)⟩⟩
        ·rw [if_neg c8] at H
         exact absurd H (by simp)
       ·rw [if_neg c7] at H
        exact absurd H (by simp)
    ·rw [if_neg c6] at H
     exact absurd H (by simp)
   ·rw [if_neg c5] at H
    have c5b0 : decide (x7_1 < (l0.length : Int)) = false := decide_eq_false c5
    clear c5
    obtain rfl := Option.some.inj H
    go_wp2
    go_ret
    exact ⟨_, by first | rfl | (simp [errW_none, errW_some] <;> rfl) | (simp [*, errW_none, errW_some] <;> rfl), by (with_reducible repeat (first | apply Kd.R_alloc | apply Kd.R_drewN | apply Kd.R_drew)); exact HO_5.out, by repeat (first | (with_reducible first | exact HB.out | apply below_alloc | apply pw_below_drewN | apply below_drew1) | exact HB.out)⟩

/-! ### signalbenchlaw21_lives: function 8 -/
def signalbenchlaw21_lives.j0 : Nat → Bool → ByteArray → Int → Bool → Option (Bool)
 | 0, _, _, _, _ => none
 | k + 1, x31, x266000, x266001, x266002 => if x31 = true then (some false) else ((signalbenchlaw21_events.f k (([(⟨0, 0, 0, (⟨#[48, 48, 49, 49, 49, 49, 49, 49, 48, 48, 48, 48, 48, 48, 49, 48, 49]⟩ : ByteArray), 0⟩ : S46)] : List (S46))) 1).bind fun t278 => ((sync_Decode.f k x266000 x266001 x266002 t278).bind fun t281 => (if (t281.length : Int) = 1 then (if 0 < (t281.length : Int) then (some (((rd_T32 t281 0).f0) == 5 && (((rd_T32 t281 0).f1) == 1 && (((rd_T32 t281 0).f2) == 17 && (((rd_T32 t281 0).f3) == 0 && (((rd_T32 t281 0).f4) == 0 && ((((rd_T32 t281 0).f5).toList) == ([5] : List UInt8) && (((rd_T32 t281 0).f6) == 0)))))))) else (none)) else (some false))))
def signalbenchlaw21_lives.f (k : Nat)  : Option (Bool) := (sync_Encode.f k (⟨#[48, 49, 49, 49, 49, 49, 49, 48]⟩ : ByteArray) 1 true (([(⟨0, 0, 0, (⟨#[5]⟩ : ByteArray), 0⟩ : S46)] : List (S46)))).bind fun bt269 => (if bt269.2 = 0 then (if (bt269.1.length : Int) = 1 then (if 0 < (bt269.1.length : Int) then (if ((rd_T46 bt269.1 0).f3).toList = ([48, 49, 49, 49, 49, 49, 49, 48, 48, 48, 48, 48, 48, 49, 48, 49] : List UInt8) then ((sync_Check.f k (⟨#[48, 49, 49, 49, 49, 49, 49, 48]⟩ : ByteArray) 1 true).bind fun t274 => (signalbenchlaw21_lives.j0 k (t274 != 0) (⟨#[48, 49, 49, 49, 49, 49, 49, 48]⟩ : ByteArray) 1 true)) else (signalbenchlaw21_lives.j0 k true (⟨#[48, 49, 49, 49, 49, 49, 49, 48]⟩ : ByteArray) 1 true)) else (none)) else (signalbenchlaw21_lives.j0 k true (⟨#[48, 49, 49, 49, 49, 49, 49, 48]⟩ : ByteArray) 1 true)) else (signalbenchlaw21_lives.j0 k true (⟨#[48, 49, 49, 49, 49, 49, 49, 48]⟩ : ByteArray) 1 true))
theorem signalbenchlaw21_lives.mono_l : ∀ k, (∀ y0 y1 y2 y3, LeO (signalbenchlaw21_lives.j0 k y0 y1 y2 y3) (signalbenchlaw21_lives.j0 (k + 1) y0 y1 y2 y3))
 | 0 => fun _ _ _ _ r h => by simp [signalbenchlaw21_lives.j0] at h
 | k + 1 => by
  have ih0 := signalbenchlaw21_lives.mono_l k
  ·intro y0 y1 y2 y3
   unfold signalbenchlaw21_lives.j0
   repeat' first
   | (with_reducible exact ih0 _ _ _ _)
   | (with_reducible exact signalbenchlaw21_events.mono _ _ _)
   | (with_reducible exact sync_Check.mono _ _ _ _)
   | (with_reducible exact sync_Decode.mono _ _ _ _ _)
   | (with_reducible exact sync_Encode.mono _ _ _ _ _)
   | (with_reducible exact LeO.refl _)
   | (with_reducible exact LeO.none _)
   | (with_reducible refine LeO.ite ?_ ?_)
   | (with_reducible refine LeO.bind ?_ (fun _ => ?_))
   | exact ih0 _ _ _ _
   | exact signalbenchlaw21_events.mono _ _ _
   | exact sync_Check.mono _ _ _ _
   | exact sync_Decode.mono _ _ _ _ _
   | exact sync_Encode.mono _ _ _ _ _
   | exact LeO.none _
   | refine LeO.ite ?_ ?_
   | refine LeO.bind ?_ (fun _ => ?_)
theorem signalbenchlaw21_lives.mono : ∀ k, LeO (signalbenchlaw21_lives.f k ) (signalbenchlaw21_lives.f (k + 1) ) := by
 intro  k
 have ih0 := signalbenchlaw21_lives.mono_l k
 unfold signalbenchlaw21_lives.f
 repeat' first
   | (with_reducible exact ih0 _ _ _ _)
   | (with_reducible exact signalbenchlaw21_events.mono _ _ _)
   | (with_reducible exact sync_Check.mono _ _ _ _)
   | (with_reducible exact sync_Decode.mono _ _ _ _ _)
   | (with_reducible exact sync_Encode.mono _ _ _ _ _)
   | (with_reducible exact LeO.refl _)
   | (with_reducible exact LeO.none _)
   | (with_reducible refine LeO.ite ?_ ?_)
   | (with_reducible refine LeO.bind ?_ (fun _ => ?_))
   | exact ih0 _ _ _ _
   | exact signalbenchlaw21_events.mono _ _ _
   | exact sync_Check.mono _ _ _ _
   | exact sync_Decode.mono _ _ _ _ _
   | exact sync_Encode.mono _ _ _ _ _
   | exact LeO.none _
   | refine LeO.ite ?_ ?_
   | refine LeO.bind ?_ (fun _ => ?_)
set_option maxHeartbeats 8000000 in
set_option maxRecDepth 100000 in
theorem signalbenchlaw21_lives.calls (k : Nat)  (r : Bool) (w : World) (h : signalbenchlaw21_lives.f k  = some r) :
  Calls Try.prog 8 #[] w fun e w' => e = .returned (.bool r) ∧ Below w.heap.size w w' := by
 have hu23 := Try.underlying23
 have hu46 := Try.underlying46
 have hu32 := Try.underlying32
 have HB := Aside0.mk (Below.refl w.heap.size w)
 have H : ((sync_Encode.f k (⟨#[48, 49, 49, 49, 49, 49, 49, 48]⟩ : ByteArray) 1 true (([(⟨0, 0, 0, (⟨#[5]⟩ : ByteArray), 0⟩ : S46)] : List (S46)))).bind fun bt269 => (if bt269.2 = 0 then (if (bt269.1.length : Int) = 1 then (if 0 < (bt269.1.length : Int) then (if ((rd_T46 bt269.1 0).f3).toList = ([48, 49, 49, 49, 49, 49, 49, 48, 48, 48, 48, 48, 48, 49, 48, 49] : List UInt8) then ((sync_Check.f k (⟨#[48, 49, 49, 49, 49, 49, 49, 48]⟩ : ByteArray) 1 true).bind fun t274 => (signalbenchlaw21_lives.j0 k (t274 != 0) (⟨#[48, 49, 49, 49, 49, 49, 49, 48]⟩ : ByteArray) 1 true)) else (signalbenchlaw21_lives.j0 k true (⟨#[48, 49, 49, 49, 49, 49, 49, 48]⟩ : ByteArray) 1 true)) else (none)) else (signalbenchlaw21_lives.j0 k true (⟨#[48, 49, 49, 49, 49, 49, 49, 48]⟩ : ByteArray) 1 true)) else (signalbenchlaw21_lives.j0 k true (⟨#[48, 49, 49, 49, 49, 49, 49, 48]⟩ : ByteArray) 1 true))) = some r := h
 clear h
 obtain ⟨y266, hy266⟩ : ∃ y_ : List (S46), y_ = (([(⟨0, 0, 0, (⟨#[5]⟩ : ByteArray), 0⟩ : S46)] : List (S46))) := ⟨_, rfl⟩
 replace H : ((sync_Encode.f k (⟨#[48, 49, 49, 49, 49, 49, 49, 48]⟩ : ByteArray) 1 true y266).bind fun bt269 => (if bt269.2 = 0 then (if (bt269.1.length : Int) = 1 then (if 0 < (bt269.1.length : Int) then (if ((rd_T46 bt269.1 0).f3).toList = ([48, 49, 49, 49, 49, 49, 49, 48, 48, 48, 48, 48, 48, 49, 48, 49] : List UInt8) then ((sync_Check.f k (⟨#[48, 49, 49, 49, 49, 49, 49, 48]⟩ : ByteArray) 1 true).bind fun t274 => (signalbenchlaw21_lives.j0 k (t274 != 0) (⟨#[48, 49, 49, 49, 49, 49, 49, 48]⟩ : ByteArray) 1 true)) else (signalbenchlaw21_lives.j0 k true (⟨#[48, 49, 49, 49, 49, 49, 49, 48]⟩ : ByteArray) 1 true)) else (none)) else (signalbenchlaw21_lives.j0 k true (⟨#[48, 49, 49, 49, 49, 49, 49, 48]⟩ : ByteArray) 1 true)) else (signalbenchlaw21_lives.j0 k true (⟨#[48, 49, 49, 49, 49, 49, 49, 48]⟩ : ByteArray) 1 true))) = some r := by first | (rw [hy266]; with_reducible exact H) | (have H2_ := (Option.bind_some _ _).symm.trans H; rw [hy266]; with_reducible exact H2_) | (have H2_ := (Option.bind_some _ _).symm.trans H; with_reducible exact H2_) | with_reducible exact H | (rw [hy266]; exact H) | exact H
 have Ny266 := Aside0.mk hy266
 clear hy266
 replace H := Option.bind_eq_some_iff.mp H
 obtain ⟨⟨t269, t272⟩, A10, H⟩ := H
 replace H : (if t272 = 0 then (if (t269.length : Int) = 1 then (if 0 < (t269.length : Int) then (if ((rd_T46 t269 0).f3).toList = ([48, 49, 49, 49, 49, 49, 49, 48, 48, 48, 48, 48, 48, 49, 48, 49] : List UInt8) then ((sync_Check.f k (⟨#[48, 49, 49, 49, 49, 49, 49, 48]⟩ : ByteArray) 1 true).bind fun t274 => (signalbenchlaw21_lives.j0 k (t274 != 0) (⟨#[48, 49, 49, 49, 49, 49, 49, 48]⟩ : ByteArray) 1 true)) else (signalbenchlaw21_lives.j0 k true (⟨#[48, 49, 49, 49, 49, 49, 49, 48]⟩ : ByteArray) 1 true)) else (none)) else (signalbenchlaw21_lives.j0 k true (⟨#[48, 49, 49, 49, 49, 49, 49, 48]⟩ : ByteArray) 1 true)) else (signalbenchlaw21_lives.j0 k true (⟨#[48, 49, 49, 49, 49, 49, 49, 48]⟩ : ByteArray) 1 true)) = some r := H
 have A1 := Aside0.mk A10
 clear A10
 have HC2 := Aside0.mk H
 clear H
 go_enter Try.func8, Try.ntmps8
 go_upto_region 3 with (first | ((with_reducible refine gate_dst (N := 1) rfl ?_); (try (refine gate_guard (by first | rfl | (go_simp; done)) ?_; dsimp only)); refine box_event ?hg (N := 1) ?hd (cs := #[.string (⟨#[]⟩ : ByteArray), .int .i64 0, .bool false]) (t := 23) ?hr ?_; (case hd => rfl); (case hg => rfl); (case hr => first | (go_simp; done) | (go_simp; rfl)); intro gb265 hg w3 hbox hb; have n0_ := Aside0.mk (below_step (hbw HB.out) hb); have n1_ := Aside0.mk (hbox); have n2_ := Aside0.mk ((by rw [hg]; exact (below_size (hbw HB.out)) : w.heap.size ≤ gb265)); have n3_ := Aside0.mk ((by rw [hg]; exact (below_size (hbw HB.out)) : w.heap.size ≤ gb265)); clear HB; have HB := n0_; have BK265 := n1_; have GW265 := n2_; have GE265 := n3_; clear n0_ n1_ n2_ n3_; clear hb hbox hg; have hcz4_0 : w3.cell? ⟨gb265, 0, none⟩ = some (.string (⟨#[]⟩ : ByteArray)) := (blk_cell BK265.out 0).trans rfl; have hcz4_1 : w3.cell? ⟨gb265, 1, none⟩ = some (.int .i64 0) := (blk_cell BK265.out 1).trans rfl; have hcz4_2 : w3.cell? ⟨gb265, 2, none⟩ = some (.bool false) := (blk_cell BK265.out 2).trans rfl; have hfz4_0 := blk_frozen BK265.out 0; have hfz4_1 := blk_frozen BK265.out 1; have hfz4_2 := blk_frozen BK265.out 2) | ((with_reducible refine gate_dst (N := 9) rfl ?_); (try (refine gate_guard (by first | rfl | (go_simp; done)) ?_; dsimp only)); refine Kd.R_lit k46 _ 46 ?hg (N := 9) ?hd (xs := ([(⟨0, 0, 0, (⟨#[5]⟩ : ByteArray), 0⟩ : S46)] : List (S46))) (inner := [.int .i64 0, .int .i64 0, .int .i64 0, .string (⟨#[5]⟩ : ByteArray), .int .i64 0]) (ok := fun _ => True) (okp := fun _ => True) ?hr ?hp (fun _ hk => hk) trivial (Below.refl _ _) (Nat.le_refl _) (by simp) ?_; (case hd => rfl); (case hg => rfl); (case hr => first | (go_simp; done) | (go_simp; rfl)); (case hp => exact (Reps.c5 (show Kd.M k46 _ _ _ (⟨0, 0, 0, (⟨#[5]⟩ : ByteArray), 0⟩ : S46) [.int .i64 0, .int .i64 0, .int .i64 0, .string (⟨#[5]⟩ : ByteArray), .int .i64 0] from (k46_mkM _ _ _ (⟨0, 0, 0, (⟨#[5]⟩ : ByteArray), 0⟩ : S46) )) (Reps.none _ _))); intro v267 w5 ho6 hb hg_ hnew_; clear hg_ hnew_; (first | rw [← Ny266.out] at ho6 | (simp only [Int.reduceToNat] at ho6; rw [← Ny266.out] at ho6)); have n0_ := Aside0.mk (Kd.R_lower ho6 (below_size (hbw HB.out))); have n1_ := Aside0.mk (blk_below (g := gb265) (o := .cells #[.string (⟨#[48, 49, 49, 49, 49, 49, 49, 48]⟩ : ByteArray), .int .i64 1, .bool true] 23 (0, 0)) (by (with_reducible repeat (first | refine blk_drewN ?_ _ | refine blk_drew ?_ | refine blk_alloc ?_ _)); refine blk_put (cs := #[.string (⟨#[48, 49, 49, 49, 49, 49, 49, 48]⟩ : ByteArray), .int .i64 1, .bool false]) ?_ 2 _ rfl; (with_reducible repeat (first | refine blk_drewN ?_ _ | refine blk_drew ?_ | refine blk_alloc ?_ _)); refine blk_put (cs := #[.string (⟨#[48, 49, 49, 49, 49, 49, 49, 48]⟩ : ByteArray), .int .i64 0, .bool false]) ?_ 1 _ rfl; (with_reducible repeat (first | refine blk_drewN ?_ _ | refine blk_drew ?_ | refine blk_alloc ?_ _)); refine blk_put (cs := #[.string (⟨#[]⟩ : ByteArray), .int .i64 0, .bool false]) ?_ 0 _ rfl; (with_reducible repeat (first | refine blk_drewN ?_ _ | refine blk_drew ?_ | refine blk_alloc ?_ _)); exact BK265.out) hb); have n2_ := Aside0.mk (below_step (hbw HB.out) hb); clear BK265; clear HB; have HO268 := n0_; have BK265 := n1_; have HB := n2_; clear n0_ n1_ n2_; clear hb ho6; obtain ⟨Ao7, co7, eo7⟩ := Kd.R_slice HO268.out; subst eo7) | ((with_reducible refine gate_callee (f := 19) rfl ?_); refine goesL_ (some 10) rfl rfl Try.func19 (by kernel_rfl) rfl #[.agg #[.string (⟨#[48, 49, 49, 49, 49, 49, 49, 48]⟩ : ByteArray), .int .i64 1, .bool true], .slice Ao7 y266.length co7] rfl (by (try simp only [List.map_toArray, List.map_cons, List.map_nil]); first | done | rfl | (simp only [List.length_drop, List.length_take]; rfl)) ?_; (with_reducible refine (sync_Encode.calls k (⟨#[48, 49, 49, 49, 49, 49, 49, 48]⟩ : ByteArray) 1 true _ _ y266 t269 t272 _ ?side1 ?side2 A1.out).mono ?_); (case side1 => repeat (first | exact (Kd.R_reads' HO268.out).2.2 | (with_reducible refine Kd.C_alloc ?_ _) | (with_reducible refine Kd.C_drewN ?_ _) | (with_reducible refine Kd.C_drew ?_))); (case side2 => exact (Kd.R_reads' HO268.out).2.1); rintro e w8 ⟨v270, rfl, ho0, hb⟩; refine ⟨_, rfl, ?_⟩; have n0_ := Aside0.mk (Kd.R_elder' (rkw HO268.out) (Kd.R_base ho0) hb); have n1_ := Aside0.mk (Kd.R_lower (Kd.R_new' ho0 (Kd.R_lt (rkw HO268.out))) (below_size (hbw HB.out))); have n2_ := Aside0.mk (blkb BK265.out hb); have n3_ := Aside0.mk (below_step (hbw HB.out) hb); clear HO268; clear BK265; clear HB; have HO268 := n0_; have HO271 := n1_; have BK265 := n2_; have HB := n3_; clear n0_ n1_ n2_ n3_; (try clear hb); (try clear hb2); (try clear hk); (try clear hi); (try clear ho0)))
 (try simp only [Act.put, List.setIfInBounds_toArray, List.set_cons_zero, List.set_cons_succ])
 go_cut [31] (fun v31 wc => ∃ (kq : Nat) (x31_1 : Bool), v31 = .bool x31_1 ∧ Aside0 (signalbenchlaw21_lives.j0 kq x31_1 (⟨#[48, 49, 49, 49, 49, 49, 49, 48]⟩ : ByteArray) 1 true = some r) ∧ Aside0 (kq ≤ k) ∧ Aside0 (wc.heap[gb265]? = some (.cells #[.string (⟨#[48, 49, 49, 49, 49, 49, 49, 48]⟩ : ByteArray), .int .i64 1, .bool true] 23 (0, 0))) ∧ Aside0 (Below w.heap.size w wc))
 case first =>
  have H := HC2.out
  clear HC2
  by_cases c9 : t272 = 0
  ·rw [if_pos c9] at H
   have c9b0 : (t272 == 0) = true := beq_iff_eq.mpr c9
   have c9b1 : (t272 != 0) = false := bne_eq_false_iff_eq.mpr c9
   clear c9
   (first | rw [c9b0] | (simp only [i64_w, i32_w]; rw [c9b0]) | skip)
   by_cases c10 : (t269.length : Int) = 1
   ·rw [if_pos c10] at H
    have c10b0 : ((t269.length : Int) == 1) = true := beq_iff_eq.mpr c10
    have c10b1 : ((t269.length : Int) != 1) = false := bne_eq_false_iff_eq.mpr c10
    clear c10
    by_cases c11 : 0 < (t269.length : Int)
    ·rw [if_pos c11] at H
     have c11b0 : decide (0 < (t269.length : Int)) = true := decide_eq_true c11
     have c11b1 : decide (0 < t269.length) = true := decide_eq_true (by omega)
     clear c11
     by_cases c12 : ((rd_T46 t269 0).f3).toList = ([48, 49, 49, 49, 49, 49, 49, 48, 48, 48, 48, 48, 48, 49, 48, 49] : List UInt8)
     ·rw [if_pos c12] at H
      have c12b0 : (((rd_T46 t269 0).f3).toList == ([48, 49, 49, 49, 49, 49, 49, 48, 48, 48, 48, 48, 48, 49, 48, 49] : List UInt8)) = true := beq_iff_eq.mpr c12
      have c12b1 : (((rd_T46 t269 0).f3).toList != ([48, 49, 49, 49, 49, 49, 49, 48, 48, 48, 48, 48, 48, 49, 48, 49] : List UInt8)) = false := bne_eq_false_iff_eq.mpr c12
      clear c12
      replace H := Option.bind_eq_some_iff.mp H
      obtain ⟨t274, A130, H⟩ := H
      replace H : (signalbenchlaw21_lives.j0 k (t274 != 0) (⟨#[48, 49, 49, 49, 49, 49, 49, 48]⟩ : ByteArray) 1 true) = some r := H
      have A13 := Aside0.mk A130
      clear A130
      have H' := Aside0.mk H
      clear H
      obtain ⟨Ao14, co14, eo14⟩ := Kd.R_slice HO271.out
      subst eo14
      have p273 : 0 ≤ (0 : Int) := (by omega)
      have q273 : 0 < (t269.length : Int) := of_decide_eq_true (by first | (with_reducible assumption) | assumption)
      obtain ⟨ad273, e273, hx273_0, hx273_1, hx273_2, hx273_3, hx273_4⟩ := at_T46 (Kd.R_reads' HO271.out).2.2 0 p273 q273
      cases e273
      have qi273 : (0 < t269.length) = True := eq_true (by omega)
      (try rw [show ((0 : Int)).toNat = 0 from rfl] at hx273_0)
      (try rw [show 0 * 5 = 0 from rfl] at hx273_0)
      (try rw [Addr.add_zero'] at hx273_0)
      (try rw [show ((0 : Int)).toNat = 0 from rfl] at hx273_1)
      (try rw [show 0 * 5 = 0 from rfl] at hx273_1)
      (try rw [Addr.add_zero'] at hx273_1)
      (try rw [show ((0 : Int)).toNat = 0 from rfl] at hx273_2)
      (try rw [show 0 * 5 = 0 from rfl] at hx273_2)
      (try rw [Addr.add_zero'] at hx273_2)
      (try rw [show ((0 : Int)).toNat = 0 from rfl] at hx273_3)
      (try rw [show 0 * 5 = 0 from rfl] at hx273_3)
      (try rw [Addr.add_zero'] at hx273_3)
      (try rw [show ((0 : Int)).toNat = 0 from rfl] at hx273_4)
      (try rw [show 0 * 5 = 0 from rfl] at hx273_4)
      (try rw [Addr.add_zero'] at hx273_4)
      replace p273 := eq_true p273
      replace q273 := eq_true q273
      have hcz15_0 : w8.cell? ⟨gb265, 0, none⟩ = some (.string (⟨#[48, 49, 49, 49, 49, 49, 49, 48]⟩ : ByteArray)) := (blk_cell BK265.out 0).trans rfl
      have hcz15_1 : w8.cell? ⟨gb265, 1, none⟩ = some (.int .i64 1) := (blk_cell BK265.out 1).trans rfl
      have hcz15_2 : w8.cell? ⟨gb265, 2, none⟩ = some (.bool true) := (blk_cell BK265.out 2).trans rfl
      have hfz15_0 := blk_frozen BK265.out 0
      have hfz15_1 := blk_frozen BK265.out 1
      have hfz15_2 := blk_frozen BK265.out 2
      go_wp2_with (first | (go_at_call 21; (with_reducible refine (sync_Check.calls k (⟨#[48, 49, 49, 49, 49, 49, 49, 48]⟩ : ByteArray) 1 true t274 _ A13.out).mono ?_); rintro e w16 ⟨rfl, hb⟩; have n0_ := Aside0.mk (Kd.R_below (rkw HO268.out) hb); have n1_ := Aside0.mk (Kd.R_below (rkw HO271.out) hb); have n2_ := Aside0.mk (blkb BK265.out hb); have n3_ := Aside0.mk (below_step (hbw HB.out) hb); clear HO268; clear HO271; clear BK265; clear HB; have HO268 := n0_; have HO271 := n1_; have BK265 := n2_; have HB := n3_; clear n0_ n1_ n2_ n3_; (try clear hb); (try clear hb2); (try clear hk); (try clear hi)))
      go_meet
      case rel => exact ⟨_, ((t274 != 0)), (by first | rfl | (simp; done) | (simp [*]; done)), H', ⟨by first | omega | exact Nat.le_refl _⟩, ⟨by (with_reducible repeat (first | refine blk_drewN ?_ _ | refine blk_drew ?_ | refine blk_alloc ?_ _)); exact BK265.out⟩, ⟨by repeat (first | (with_reducible first | exact HB.out | apply below_alloc | apply pw_below_drewN | apply below_drew1 | refine below_set ?_ GE265.out) | exact HB.out)⟩⟩
     ·rw [if_neg c12] at H
      have c12b0 : (((rd_T46 t269 0).f3).toList == ([48, 49, 49, 49, 49, 49, 49, 48, 48, 48, 48, 48, 48, 49, 48, 49] : List UInt8)) = false := beq_eq_false_iff_ne.mpr c12
      have c12b1 : (((rd_T46 t269 0).f3).toList != ([48, 49, 49, 49, 49, 49, 49, 48, 48, 48, 48, 48, 48, 49, 48, 49] : List UInt8)) = true := bne_iff_ne.mpr c12
      have H' := Aside0.mk H
      clear H
      obtain ⟨Ao17, co17, eo17⟩ := Kd.R_slice HO271.out
      subst eo17
      have p273 : 0 ≤ (0 : Int) := (by omega)
      have q273 : 0 < (t269.length : Int) := of_decide_eq_true (by first | (with_reducible assumption) | assumption)
      obtain ⟨ad273, e273, hx273_0, hx273_1, hx273_2, hx273_3, hx273_4⟩ := at_T46 (Kd.R_reads' HO271.out).2.2 0 p273 q273
      cases e273
      have qi273 : (0 < t269.length) = True := eq_true (by omega)
      (try rw [show ((0 : Int)).toNat = 0 from rfl] at hx273_0)
      (try rw [show 0 * 5 = 0 from rfl] at hx273_0)
      (try rw [Addr.add_zero'] at hx273_0)
      (try rw [show ((0 : Int)).toNat = 0 from rfl] at hx273_1)
      (try rw [show 0 * 5 = 0 from rfl] at hx273_1)
      (try rw [Addr.add_zero'] at hx273_1)
      (try rw [show ((0 : Int)).toNat = 0 from rfl] at hx273_2)
      (try rw [show 0 * 5 = 0 from rfl] at hx273_2)
      (try rw [Addr.add_zero'] at hx273_2)
      (try rw [show ((0 : Int)).toNat = 0 from rfl] at hx273_3)
      (try rw [show 0 * 5 = 0 from rfl] at hx273_3)
      (try rw [Addr.add_zero'] at hx273_3)
      (try rw [show ((0 : Int)).toNat = 0 from rfl] at hx273_4)
      (try rw [show 0 * 5 = 0 from rfl] at hx273_4)
      (try rw [Addr.add_zero'] at hx273_4)
      replace p273 := eq_true p273
      replace q273 := eq_true q273
      go_wp2
      go_meet
      case rel => exact ⟨_, (true), (by first | rfl | (simp; done) | (simp [*]; done)), H', ⟨by first | omega | exact Nat.le_refl _⟩, ⟨by (with_reducible repeat (first | refine blk_drewN ?_ _ | refine blk_drew ?_ | refine blk_alloc ?_ _)); exact BK265.out⟩, ⟨by repeat (first | (with_reducible first | exact HB.out | apply below_alloc | apply pw_below_drewN | apply below_drew1 | refine below_set ?_ GE265.out) | exact HB.out)⟩⟩
    ·rw [if_neg c11] at H
     exact absurd H (by simp)
   ·rw [if_neg c10] at H
    have c10b0 : ((t269.length : Int) == 1) = false := beq_eq_false_iff_ne.mpr c10
    have c10b1 : ((t269.length : Int) != 1) = true := bne_iff_ne.mpr c10
    have H' := Aside0.mk H
    clear H
    obtain ⟨Ao18, co18, eo18⟩ := Kd.R_slice HO271.out
    subst eo18
    go_wp2
    go_meet
    case rel => exact ⟨_, (true), (by first | rfl | (simp; done) | (simp [*]; done)), H', ⟨by first | omega | exact Nat.le_refl _⟩, ⟨by (with_reducible repeat (first | refine blk_drewN ?_ _ | refine blk_drew ?_ | refine blk_alloc ?_ _)); exact BK265.out⟩, ⟨by repeat (first | (with_reducible first | exact HB.out | apply below_alloc | apply pw_below_drewN | apply below_drew1 | refine below_set ?_ GE265.out) | exact HB.out)⟩⟩
  ·rw [if_neg c9] at H
   have c9b0 : (t272 == 0) = false := beq_eq_false_iff_ne.mpr c9
   have c9b1 : (t272 != 0) = true := bne_iff_ne.mpr c9
   (first | rw [c9b0] | (simp only [i64_w, i32_w]; rw [c9b0]) | skip)
   have H' := Aside0.mk H
   clear H
   go_wp2
   go_meet
   case rel => exact ⟨_, (true), (by first | rfl | (simp; done) | (simp [*]; done)), H', ⟨by first | omega | exact Nat.le_refl _⟩, ⟨by (with_reducible repeat (first | refine blk_drewN ?_ _ | refine blk_drew ?_ | refine blk_alloc ?_ _)); exact BK265.out⟩, ⟨by repeat (first | (with_reducible first | exact HB.out | apply below_alloc | apply pw_below_drewN | apply below_drew1 | refine below_set ?_ GE265.out) | exact HB.out)⟩⟩
 case rest =>
  clear HC2
  try clear c1
  try clear p2
  try clear q2
  try clear hx2
  try clear qi2
  try clear c5
  try clear c8
  try clear c9
  try clear c9b0
  try clear c9b1
  try clear c10
  try clear c10b0
  try clear c10b1
  try clear c11
  try clear c11b0
  try clear c11b1
  try clear c12
  try clear c12b0
  try clear c12b1
  try clear hcz15_0
  try clear hcz15_1
  try clear hcz15_2
  try clear hcz4_0
  try clear hcz4_1
  try clear hcz4_2
  try clear hfz15_0
  try clear hfz15_1
  try clear hfz15_2
  try clear hfz4_0
  try clear hfz4_1
  try clear hfz4_2
  try clear hx273_0
  try clear hx273_1
  try clear hx273_2
  try clear hx273_3
  try clear hx273_4
  try clear p273
  try clear q273
  obtain ⟨kq, x31_1, rfl, HA, HJ1, BK265, HB⟩ := hcut
  cases kq with
  | zero => exact absurd HA.out (by simp [signalbenchlaw21_lives.j0])
  | succ kj1 =>
   have H := HA.out
   clear HA
   simp only [signalbenchlaw21_lives.j0] at H
   by_cases c19 : x31_1 = true
   ·subst c19
    have H1 : (some false) = some r := by rw [if_pos rfl] at H; exact H
    clear H
    have H := H1
    clear H1
    obtain rfl := Option.some.inj H
    go_wp2
    go_ret
    exact ⟨by first | rfl | (simp [errW_none, errW_some] <;> rfl) | (simp [*, errW_none, errW_some] <;> rfl), by repeat (first | (with_reducible first | exact HB.out | apply below_alloc | apply pw_below_drewN | apply below_drew1 | refine below_set ?_ GE265.out) | exact HB.out)⟩
   ·replace c19 := Bool.eq_false_iff.mpr c19
    subst c19
    have H1 : ((signalbenchlaw21_events.f kj1 (([(⟨0, 0, 0, (⟨#[48, 48, 49, 49, 49, 49, 49, 49, 48, 48, 48, 48, 48, 48, 49, 48, 49]⟩ : ByteArray), 0⟩ : S46)] : List (S46))) 1).bind fun t278 => ((sync_Decode.f kj1 (⟨#[48, 49, 49, 49, 49, 49, 49, 48]⟩ : ByteArray) 1 true t278).bind fun t281 => (if (t281.length : Int) = 1 then (if 0 < (t281.length : Int) then (some (((rd_T32 t281 0).f0) == 5 && (((rd_T32 t281 0).f1) == 1 && (((rd_T32 t281 0).f2) == 17 && (((rd_T32 t281 0).f3) == 0 && (((rd_T32 t281 0).f4) == 0 && ((((rd_T32 t281 0).f5).toList) == ([5] : List UInt8) && (((rd_T32 t281 0).f6) == 0)))))))) else (none)) else (some false)))) = some r := by rw [if_neg (show ¬ (false = true) by decide)] at H; exact H
    clear H
    have H := H1
    clear H1
    obtain ⟨y275, hy275⟩ : ∃ y_ : List (S46), y_ = (([(⟨0, 0, 0, (⟨#[48, 48, 49, 49, 49, 49, 49, 49, 48, 48, 48, 48, 48, 48, 49, 48, 49]⟩ : ByteArray), 0⟩ : S46)] : List (S46))) := ⟨_, rfl⟩
    replace H : ((signalbenchlaw21_events.f kj1 y275 1).bind fun t278 => ((sync_Decode.f kj1 (⟨#[48, 49, 49, 49, 49, 49, 49, 48]⟩ : ByteArray) 1 true t278).bind fun t281 => (if (t281.length : Int) = 1 then (if 0 < (t281.length : Int) then (some (((rd_T32 t281 0).f0) == 5 && (((rd_T32 t281 0).f1) == 1 && (((rd_T32 t281 0).f2) == 17 && (((rd_T32 t281 0).f3) == 0 && (((rd_T32 t281 0).f4) == 0 && ((((rd_T32 t281 0).f5).toList) == ([5] : List UInt8) && (((rd_T32 t281 0).f6) == 0)))))))) else (none)) else (some false)))) = some r := by first | (rw [hy275]; with_reducible exact H) | (have H2_ := (Option.bind_some _ _).symm.trans H; rw [hy275]; with_reducible exact H2_) | (have H2_ := (Option.bind_some _ _).symm.trans H; with_reducible exact H2_) | with_reducible exact H | (rw [hy275]; exact H) | exact H
    have Ny275 := Aside0.mk hy275
    clear hy275
    replace H := Option.bind_eq_some_iff.mp H
    obtain ⟨t278, A200, H⟩ := H
    replace H : ((sync_Decode.f kj1 (⟨#[48, 49, 49, 49, 49, 49, 49, 48]⟩ : ByteArray) 1 true t278).bind fun t281 => (if (t281.length : Int) = 1 then (if 0 < (t281.length : Int) then (some (((rd_T32 t281 0).f0) == 5 && (((rd_T32 t281 0).f1) == 1 && (((rd_T32 t281 0).f2) == 17 && (((rd_T32 t281 0).f3) == 0 && (((rd_T32 t281 0).f4) == 0 && ((((rd_T32 t281 0).f5).toList) == ([5] : List UInt8) && (((rd_T32 t281 0).f6) == 0)))))))) else (none)) else (some false))) = some r := H
    have A20 := Aside0.mk A200
    clear A200
    replace H := Option.bind_eq_some_iff.mp H
    obtain ⟨t281, A210, H⟩ := H
    replace H : (if (t281.length : Int) = 1 then (if 0 < (t281.length : Int) then (some (((rd_T32 t281 0).f0) == 5 && (((rd_T32 t281 0).f1) == 1 && (((rd_T32 t281 0).f2) == 17 && (((rd_T32 t281 0).f3) == 0 && (((rd_T32 t281 0).f4) == 0 && ((((rd_T32 t281 0).f5).toList) == ([5] : List UInt8) && (((rd_T32 t281 0).f6) == 0)))))))) else (none)) else (some false)) = some r := H
    have A21 := Aside0.mk A210
    clear A210
    by_cases c22 : (t281.length : Int) = 1
    ·rw [if_pos c22] at H
     have c22b0 : ((t281.length : Int) == 1) = true := beq_iff_eq.mpr c22
     have c22b1 : ((t281.length : Int) != 1) = false := bne_eq_false_iff_eq.mpr c22
     clear c22
     by_cases c23 : 0 < (t281.length : Int)
     ·rw [if_pos c23] at H
      have c23b0 : decide (0 < (t281.length : Int)) = true := decide_eq_true c23
      have c23b1 : decide (0 < t281.length) = true := decide_eq_true (by omega)
      clear c23
      obtain rfl := Option.some.inj H
      try go_wp2
      have n0_ := Aside0.mk (blk_drew BK265.out)
      have n1_ := Aside0.mk (below_drew1 HB.out)
      clear BK265
      clear HB
      have BK265 := n0_
      have HB := n1_
      clear n0_ n1_
      refine start_ (n := 6) (S := fun w' => w'.cell? ⟨gb265, 0, none⟩ = some (.string (⟨#[48, 49, 49, 49, 49, 49, 49, 48]⟩ : ByteArray)) ∧ w'.cell? ⟨gb265, 1, none⟩ = some (.int .i64 1) ∧ w'.cell? ⟨gb265, 2, none⟩ = some (.bool true)) (ds := []) #[false, false, false, false, false, false] (by kernel_rfl) rfl rfl ⟨(blk_cell BK265.out 0).trans rfl, (blk_cell BK265.out 1).trans rfl, (blk_cell BK265.out 2).trans rfl⟩ (fun hHeld => ?_)
      generalize wc.drew = w24 at BK265 HB hHeld ⊢
      refine pure_ (i := 1) (N := some 33) (v := ?_) (a' := ?_) #[false, true, false, false, false, false] rfl rfl (by kernel_rfl) (fun _ _ _ h => h) (Or.inl ⟨by rfl, ?_⟩) ?_ ?_
      rotate_left
      ·intro w'
       go_simp
       with_reducible rfl
      rotate_left
      ·simp only [Act.put, nrm]
       rfl
      refine take_ (i := 0) (N := some 32) (v := ?_) (a' := ?_) #[true, true, false, false, false, false] rfl rfl (by kernel_rfl) (fun _ _ _ h => h) (Or.inl ⟨by rfl, ?_⟩) hHeld ?_ ?_
      rotate_left
      ·rintro w' ⟨s0, s1, s2⟩
       go_simp
       with_reducible rfl
      rotate_left
      ·simp only [Act.put, nrm]
       rfl
      refine one_ (i := 2) (N := some 34) #[true, true, true, false, false, false] rfl rfl (by kernel_rfl) (by decide) (fun K hK => ?_)
      refine Kd.R_lit_step k46 _ 46 ?hg (N := 34) ?hd (xs := ([(⟨0, 0, 0, (⟨#[48, 48, 49, 49, 49, 49, 49, 49, 48, 48, 48, 48, 48, 48, 49, 48, 49]⟩ : ByteArray), 0⟩ : S46)] : List (S46))) (inner := [.int .i64 0, .int .i64 0, .int .i64 0, .string (⟨#[48, 48, 49, 49, 49, 49, 49, 49, 48, 48, 48, 48, 48, 48, 49, 48, 49]⟩ : ByteArray), .int .i64 0]) (ok := fun _ => True) (okp := fun _ => True) ?hr ?hp (fun _ hk => hk) trivial (Below.refl _ _) (Nat.le_refl _) (by simp) ?_; (case hd => rfl); (case hg => rfl); (case hr => first | (go_simp; done) | (go_simp; rfl)); (case hp => exact (Reps.c5 (show Kd.M k46 _ _ _ (⟨0, 0, 0, (⟨#[48, 48, 49, 49, 49, 49, 49, 49, 48, 48, 48, 48, 48, 48, 49, 48, 49]⟩ : ByteArray), 0⟩ : S46) [.int .i64 0, .int .i64 0, .int .i64 0, .string (⟨#[48, 48, 49, 49, 49, 49, 49, 49, 48, 48, 48, 48, 48, 48, 49, 48, 49]⟩ : ByteArray), .int .i64 0] from (k46_mkM _ _ _ (⟨0, 0, 0, (⟨#[48, 48, 49, 49, 49, 49, 49, 49, 48, 48, 48, 48, 48, 48, 49, 48, 49]⟩ : ByteArray), 0⟩ : S46) )) (Reps.none _ _)))
      intro v276 w25 ho26 hb hg_ hnew_
      clear hg_ hnew_
      (first | rw [← Ny275.out] at ho26 | (simp only [Int.reduceToNat] at ho26; rw [← Ny275.out] at ho26))
      have n0_ := Aside0.mk (Kd.R_lower ho26 (below_size (hbw HB.out)))
      have n1_ := Aside0.mk (blkb BK265.out hb)
      have n2_ := Aside0.mk (below_step (hbw HB.out) hb)
      clear BK265
      clear HB
      have HO277 := n0_
      have BK265 := n1_
      have HB := n2_
      clear n0_ n1_ n2_
      clear hb ho26
      obtain ⟨Ao27, co27, eo27⟩ := Kd.R_slice HO277.out
      (first | subst eo27 | (injection eo27 with f1_ f2_ f3_; have f4_ := f1_.symm; have f5_ := f3_.symm; clear f1_ f2_ f3_; subst f4_; subst f5_))
      refine hK.out _ _ ⟨(blk_cell BK265.out 0).trans rfl, (blk_cell BK265.out 1).trans rfl, (blk_cell BK265.out 2).trans rfl⟩ (fun hHeld => ?_)
      clear hK K
      refine norm_ (a' := ?_) ?_ ?_
      rotate_left
      ·show Act.put _ (some 34) _ = _
       simp only [Act.put, nrm]
       rfl
      refine one_ (i := 3) (N := some 35) #[true, true, true, true, false, false] rfl rfl (by kernel_rfl) (by decide) (fun K hK => ?_)
      refine goes_ Try.func25 (by kernel_rfl) rfl #[.slice Ao27 y275.length co27, .int .i64 1] (by rfl) rfl rfl (by (try simp only [List.map_toArray, List.map_cons, List.map_nil]); first | done | rfl | (simp only [List.length_drop, List.length_take]; rfl)) ?_
      with_reducible refine (signalbenchlaw21_events.calls kj1 _ _ y275 1 t278 _ ?side1 ?side2 A20.out).mono ?_
      (case side1 => repeat (first | exact (Kd.R_reads' HO277.out).2.2 | (with_reducible refine Kd.C_alloc ?_ _) | (with_reducible refine Kd.C_drewN ?_ _) | (with_reducible refine Kd.C_drew ?_)))
      (case side2 => exact (Kd.R_reads' HO277.out).2.1)
      rintro e w28 ⟨v279, rfl, ho0, hb⟩
      refine ⟨_, rfl, ?_⟩
      have n0_ := Aside0.mk (Kd.R_below (rkw HO277.out) hb)
      have n1_ := Aside0.mk (Kd.R_lower ho0 (below_size (hbw HB.out)))
      have n2_ := Aside0.mk (blkb BK265.out hb)
      have n3_ := Aside0.mk (below_step (hbw HB.out) hb)
      clear HO277
      clear BK265
      clear HB
      have HO277 := n0_
      have HO280 := n1_
      have BK265 := n2_
      have HB := n3_
      clear n0_ n1_ n2_ n3_
      (try clear hb)
      (try clear hb2)
      (try clear hk)
      (try clear hi)
      (try clear ho0)
      obtain ⟨Ao29, co29, eo29⟩ := Kd.R_slice HO280.out
      (first | subst eo29 | (injection eo29 with f1_ f2_ f3_; have f4_ := f1_.symm; have f5_ := f3_.symm; clear f1_ f2_ f3_; subst f4_; subst f5_))
      refine hK.out _ _ ⟨(blk_cell BK265.out 0).trans rfl, (blk_cell BK265.out 1).trans rfl, (blk_cell BK265.out 2).trans rfl⟩ (fun hHeld => ?_)
      clear hK K
      refine norm_ (a' := ?_) ?_ ?_
      rotate_left
      ·show Act.put _ (some 35) _ = _
       simp only [Act.put, nrm]
       rfl
      refine one_ (i := 4) (N := some 36) #[true, true, true, true, true, false] rfl rfl (by kernel_rfl) (by decide) (fun K hK => ?_)
      refine goes_ Try.func16 (by kernel_rfl) rfl #[.agg #[.string (⟨#[48, 49, 49, 49, 49, 49, 49, 48]⟩ : ByteArray), .int .i64 1, .bool true], .slice Ao29 t278.length co29] (by rfl) rfl rfl (by (try simp only [List.map_toArray, List.map_cons, List.map_nil]); first | done | rfl | (simp only [List.length_drop, List.length_take]; rfl)) ?_
      with_reducible refine (sync_Decode.calls kj1 (⟨#[48, 49, 49, 49, 49, 49, 49, 48]⟩ : ByteArray) 1 true _ _ t278 t281 _ ?side1 ?side2 A21.out).mono ?_
      (case side1 => repeat (first | exact (Kd.R_reads' HO280.out).2.2 | (with_reducible refine Kd.C_alloc ?_ _) | (with_reducible refine Kd.C_drewN ?_ _) | (with_reducible refine Kd.C_drew ?_)))
      (case side2 => exact (Kd.R_reads' HO280.out).2.1)
      rintro e w30 ⟨v282, rfl, ho0, hb⟩
      refine ⟨_, rfl, ?_⟩
      have n0_ := Aside0.mk (Kd.R_below (rkw HO277.out) hb)
      have n1_ := Aside0.mk (Kd.R_elder' (rkw HO280.out) (Kd.R_base ho0) hb)
      have n2_ := Aside0.mk (Kd.R_lower (Kd.R_new' ho0 (Kd.R_lt (rkw HO280.out))) (below_size (hbw HB.out)))
      have n3_ := Aside0.mk (blkb BK265.out hb)
      have n4_ := Aside0.mk (below_step (hbw HB.out) hb)
      clear HO277
      clear HO280
      clear BK265
      clear HB
      have HO277 := n0_
      have HO280 := n1_
      have HO283 := n2_
      have BK265 := n3_
      have HB := n4_
      clear n0_ n1_ n2_ n3_ n4_
      (try clear hb)
      (try clear hb2)
      (try clear hk)
      (try clear hi)
      (try clear ho0)
      refine hK.out _ _ ⟨(blk_cell BK265.out 0).trans rfl, (blk_cell BK265.out 1).trans rfl, (blk_cell BK265.out 2).trans rfl⟩ (fun hHeld => ?_)
      clear hK K
      refine norm_ (a' := ?_) ?_ ?_
      rotate_left
      ·show Act.put _ (some 36) _ = _
       simp only [Act.put, nrm]
       rfl
      refine pure_ (i := 5) (N := some 4) (v := ?_) (a' := ?_) #[true, true, true, true, true, true] rfl rfl (by kernel_rfl) (fun _ _ _ h => h) (Or.inl ⟨by rfl, ?_⟩) ?_ ?_
      rotate_left
      ·intro w'
       go_simp
       with_reducible rfl
      rotate_left
      ·simp only [Act.put, nrm]
       rfl
      refine done_ (by kernel_rfl) ?_
      obtain ⟨Ao31, co31, eo31⟩ := Kd.R_slice HO283.out
      subst eo31
      have p284 : 0 ≤ (0 : Int) := (by omega)
      have q284 : 0 < (t281.length : Int) := of_decide_eq_true (by first | (with_reducible assumption) | assumption)
      obtain ⟨ad284, e284, hx284_0, hx284_1, hx284_2, hx284_3, hx284_4, hx284_5, hx284_6⟩ := at_T32 (Kd.R_reads' HO283.out).2.2 0 p284 q284
      cases e284
      have qi284 : (0 < t281.length) = True := eq_true (by omega)
      (try rw [show ((0 : Int)).toNat = 0 from rfl] at hx284_0)
      (try rw [show 0 * 7 = 0 from rfl] at hx284_0)
      (try rw [Addr.add_zero'] at hx284_0)
      (try rw [show ((0 : Int)).toNat = 0 from rfl] at hx284_1)
      (try rw [show 0 * 7 = 0 from rfl] at hx284_1)
      (try rw [Addr.add_zero'] at hx284_1)
      (try rw [show ((0 : Int)).toNat = 0 from rfl] at hx284_2)
      (try rw [show 0 * 7 = 0 from rfl] at hx284_2)
      (try rw [Addr.add_zero'] at hx284_2)
      (try rw [show ((0 : Int)).toNat = 0 from rfl] at hx284_3)
      (try rw [show 0 * 7 = 0 from rfl] at hx284_3)
      (try rw [Addr.add_zero'] at hx284_3)
      (try rw [show ((0 : Int)).toNat = 0 from rfl] at hx284_4)
      (try rw [show 0 * 7 = 0 from rfl] at hx284_4)
      (try rw [Addr.add_zero'] at hx284_4)
      (try rw [show ((0 : Int)).toNat = 0 from rfl] at hx284_5)
      (try rw [show 0 * 7 = 0 from rfl] at hx284_5)
      (try rw [Addr.add_zero'] at hx284_5)
      (try rw [show ((0 : Int)).toNat = 0 from rfl] at hx284_6)
      (try rw [show 0 * 7 = 0 from rfl] at hx284_6)
      (try rw [Addr.add_zero'] at hx284_6)
      replace p284 := eq_true p284
      replace q284 := eq_true q284
      try go_wp2
      go_ret
      exact ⟨by first | rfl | (simp [errW_none, errW_some] <;> rfl) | (simp [*, errW_none, errW_some] <;> rfl), by repeat (first | (with_reducible first | exact HB.out | apply below_alloc | apply pw_below_drewN | apply below_drew1 | refine below_set ?_ GE265.out) | exact HB.out)⟩
     ·rw [if_neg c23] at H
      exact absurd H (by simp)
    ·rw [if_neg c22] at H
     have c22b0 : ((t281.length : Int) == 1) = false := beq_eq_false_iff_ne.mpr c22
     have c22b1 : ((t281.length : Int) != 1) = true := bne_iff_ne.mpr c22
     obtain rfl := Option.some.inj H
     try go_wp2
     have n0_ := Aside0.mk (blk_drew BK265.out)
     have n1_ := Aside0.mk (below_drew1 HB.out)
     clear BK265
     clear HB
     have BK265 := n0_
     have HB := n1_
     clear n0_ n1_
     refine start_ (n := 6) (S := fun w' => w'.cell? ⟨gb265, 0, none⟩ = some (.string (⟨#[48, 49, 49, 49, 49, 49, 49, 48]⟩ : ByteArray)) ∧ w'.cell? ⟨gb265, 1, none⟩ = some (.int .i64 1) ∧ w'.cell? ⟨gb265, 2, none⟩ = some (.bool true)) (ds := []) #[false, false, false, false, false, false] (by kernel_rfl) rfl rfl ⟨(blk_cell BK265.out 0).trans rfl, (blk_cell BK265.out 1).trans rfl, (blk_cell BK265.out 2).trans rfl⟩ (fun hHeld => ?_)
     generalize wc.drew = w32 at BK265 HB hHeld ⊢
     refine pure_ (i := 1) (N := some 33) (v := ?_) (a' := ?_) #[false, true, false, false, false, false] rfl rfl (by kernel_rfl) (fun _ _ _ h => h) (Or.inl ⟨by rfl, ?_⟩) ?_ ?_
     rotate_left
     ·intro w'
      go_simp
      with_reducible rfl
     rotate_left
     ·simp only [Act.put, nrm]
      rfl
     refine take_ (i := 0) (N := some 32) (v := ?_) (a' := ?_) #[true, true, false, false, false, false] rfl rfl (by kernel_rfl) (fun _ _ _ h => h) (Or.inl ⟨by rfl, ?_⟩) hHeld ?_ ?_
     rotate_left
     ·rintro w' ⟨s0, s1, s2⟩
      go_simp
      with_reducible rfl
     rotate_left
     ·simp only [Act.put, nrm]
      rfl
     refine one_ (i := 2) (N := some 34) #[true, true, true, false, false, false] rfl rfl (by kernel_rfl) (by decide) (fun K hK => ?_)
     refine Kd.R_lit_step k46 _ 46 ?hg (N := 34) ?hd (xs := ([(⟨0, 0, 0, (⟨#[48, 48, 49, 49, 49, 49, 49, 49, 48, 48, 48, 48, 48, 48, 49, 48, 49]⟩ : ByteArray), 0⟩ : S46)] : List (S46))) (inner := [.int .i64 0, .int .i64 0, .int .i64 0, .string (⟨#[48, 48, 49, 49, 49, 49, 49, 49, 48, 48, 48, 48, 48, 48, 49, 48, 49]⟩ : ByteArray), .int .i64 0]) (ok := fun _ => True) (okp := fun _ => True) ?hr ?hp (fun _ hk => hk) trivial (Below.refl _ _) (Nat.le_refl _) (by simp) ?_; (case hd => rfl); (case hg => rfl); (case hr => first | (go_simp; done) | (go_simp; rfl)); (case hp => exact (Reps.c5 (show Kd.M k46 _ _ _ (⟨0, 0, 0, (⟨#[48, 48, 49, 49, 49, 49, 49, 49, 48, 48, 48, 48, 48, 48, 49, 48, 49]⟩ : ByteArray), 0⟩ : S46) [.int .i64 0, .int .i64 0, .int .i64 0, .string (⟨#[48, 48, 49, 49, 49, 49, 49, 49, 48, 48, 48, 48, 48, 48, 49, 48, 49]⟩ : ByteArray), .int .i64 0] from (k46_mkM _ _ _ (⟨0, 0, 0, (⟨#[48, 48, 49, 49, 49, 49, 49, 49, 48, 48, 48, 48, 48, 48, 49, 48, 49]⟩ : ByteArray), 0⟩ : S46) )) (Reps.none _ _)))
     intro v276 w33 ho34 hb hg_ hnew_
     clear hg_ hnew_
     (first | rw [← Ny275.out] at ho34 | (simp only [Int.reduceToNat] at ho34; rw [← Ny275.out] at ho34))
     have n0_ := Aside0.mk (Kd.R_lower ho34 (below_size (hbw HB.out)))
     have n1_ := Aside0.mk (blkb BK265.out hb)
     have n2_ := Aside0.mk (below_step (hbw HB.out) hb)
     clear BK265
     clear HB
     have HO277 := n0_
     have BK265 := n1_
     have HB := n2_
     clear n0_ n1_ n2_
     clear hb ho34
     obtain ⟨Ao35, co35, eo35⟩ := Kd.R_slice HO277.out
     (first | subst eo35 | (injection eo35 with f1_ f2_ f3_; have f4_ := f1_.symm; have f5_ := f3_.symm; clear f1_ f2_ f3_; subst f4_; subst f5_))
     refine hK.out _ _ ⟨(blk_cell BK265.out 0).trans rfl, (blk_cell BK265.out 1).trans rfl, (blk_cell BK265.out 2).trans rfl⟩ (fun hHeld => ?_)
     clear hK K
     refine norm_ (a' := ?_) ?_ ?_
     rotate_left
     ·show Act.put _ (some 34) _ = _
      simp only [Act.put, nrm]
      rfl
     refine one_ (i := 3) (N := some 35) #[true, true, true, true, false, false] rfl rfl (by kernel_rfl) (by decide) (fun K hK => ?_)
     refine goes_ Try.func25 (by kernel_rfl) rfl #[.slice Ao35 y275.length co35, .int .i64 1] (by rfl) rfl rfl (by (try simp only [List.map_toArray, List.map_cons, List.map_nil]); first | done | rfl | (simp only [List.length_drop, List.length_take]; rfl)) ?_
     with_reducible refine (signalbenchlaw21_events.calls kj1 _ _ y275 1 t278 _ ?side1 ?side2 A20.out).mono ?_
     (case side1 => repeat (first | exact (Kd.R_reads' HO277.out).2.2 | (with_reducible refine Kd.C_alloc ?_ _) | (with_reducible refine Kd.C_drewN ?_ _) | (with_reducible refine Kd.C_drew ?_)))
     (case side2 => exact (Kd.R_reads' HO277.out).2.1)
     rintro e w36 ⟨v279, rfl, ho0, hb⟩
     refine ⟨_, rfl, ?_⟩
     have n0_ := Aside0.mk (Kd.R_below (rkw HO277.out) hb)
     have n1_ := Aside0.mk (Kd.R_lower ho0 (below_size (hbw HB.out)))
     have n2_ := Aside0.mk (blkb BK265.out hb)
     have n3_ := Aside0.mk (below_step (hbw HB.out) hb)
     clear HO277
     clear BK265
     clear HB
     have HO277 := n0_
     have HO280 := n1_
     have BK265 := n2_
     have HB := n3_
     clear n0_ n1_ n2_ n3_
     (try clear hb)
     (try clear hb2)
     (try clear hk)
     (try clear hi)
     (try clear ho0)
     obtain ⟨Ao37, co37, eo37⟩ := Kd.R_slice HO280.out
     (first | subst eo37 | (injection eo37 with f1_ f2_ f3_; have f4_ := f1_.symm; have f5_ := f3_.symm; clear f1_ f2_ f3_; subst f4_; subst f5_))
     refine hK.out _ _ ⟨(blk_cell BK265.out 0).trans rfl, (blk_cell BK265.out 1).trans rfl, (blk_cell BK265.out 2).trans rfl⟩ (fun hHeld => ?_)
     clear hK K
     refine norm_ (a' := ?_) ?_ ?_
     rotate_left
     ·show Act.put _ (some 35) _ = _
      simp only [Act.put, nrm]
      rfl
     refine one_ (i := 4) (N := some 36) #[true, true, true, true, true, false] rfl rfl (by kernel_rfl) (by decide) (fun K hK => ?_)
     refine goes_ Try.func16 (by kernel_rfl) rfl #[.agg #[.string (⟨#[48, 49, 49, 49, 49, 49, 49, 48]⟩ : ByteArray), .int .i64 1, .bool true], .slice Ao37 t278.length co37] (by rfl) rfl rfl (by (try simp only [List.map_toArray, List.map_cons, List.map_nil]); first | done | rfl | (simp only [List.length_drop, List.length_take]; rfl)) ?_
     with_reducible refine (sync_Decode.calls kj1 (⟨#[48, 49, 49, 49, 49, 49, 49, 48]⟩ : ByteArray) 1 true _ _ t278 t281 _ ?side1 ?side2 A21.out).mono ?_
     (case side1 => repeat (first | exact (Kd.R_reads' HO280.out).2.2 | (with_reducible refine Kd.C_alloc ?_ _) | (with_reducible refine Kd.C_drewN ?_ _) | (with_reducible refine Kd.C_drew ?_)))
     (case side2 => exact (Kd.R_reads' HO280.out).2.1)
     rintro e w38 ⟨v282, rfl, ho0, hb⟩
     refine ⟨_, rfl, ?_⟩
     have n0_ := Aside0.mk (Kd.R_below (rkw HO277.out) hb)
     have n1_ := Aside0.mk (Kd.R_elder' (rkw HO280.out) (Kd.R_base ho0) hb)
     have n2_ := Aside0.mk (Kd.R_lower (Kd.R_new' ho0 (Kd.R_lt (rkw HO280.out))) (below_size (hbw HB.out)))
     have n3_ := Aside0.mk (blkb BK265.out hb)
     have n4_ := Aside0.mk (below_step (hbw HB.out) hb)
     clear HO277
     clear HO280
     clear BK265
     clear HB
     have HO277 := n0_
     have HO280 := n1_
     have HO283 := n2_
     have BK265 := n3_
     have HB := n4_
     clear n0_ n1_ n2_ n3_ n4_
     (try clear hb)
     (try clear hb2)
     (try clear hk)
     (try clear hi)
     (try clear ho0)
     refine hK.out _ _ ⟨(blk_cell BK265.out 0).trans rfl, (blk_cell BK265.out 1).trans rfl, (blk_cell BK265.out 2).trans rfl⟩ (fun hHeld => ?_)
     clear hK K
     refine norm_ (a' := ?_) ?_ ?_
     rotate_left
     ·show Act.put _ (some 36) _ = _
      simp only [Act.put, nrm]
      rfl
     refine pure_ (i := 5) (N := some 4) (v := ?_) (a' := ?_) #[true, true, true, true, true, true] rfl rfl (by kernel_rfl) (fun _ _ _ h => h) (Or.inl ⟨by rfl, ?_⟩) ?_ ?_
     rotate_left
     ·intro w'
      go_simp
      with_reducible rfl
     rotate_left
     ·simp only [Act.put, nrm]
      rfl
     refine done_ (by kernel_rfl) ?_
     obtain ⟨Ao39, co39, eo39⟩ := Kd.R_slice HO283.out
     subst eo39
     try go_wp2
     go_ret
     exact ⟨by first | rfl | (simp [errW_none, errW_some] <;> rfl) | (simp [*, errW_none, errW_some] <;> rfl), by repeat (first | (with_reducible first | exact HB.out | apply below_alloc | apply pw_below_drewN | apply below_drew1 | refine below_set ?_ GE265.out) | exact HB.out)⟩

end Go.Proofs.Ytbggkaofkohecaa.PSyncRoundTrips
