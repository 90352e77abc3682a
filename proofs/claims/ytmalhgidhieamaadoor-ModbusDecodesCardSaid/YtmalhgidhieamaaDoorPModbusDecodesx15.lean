-- Written by a program of this session (wip/tools/pr.py), which calls the kit's print with changes of its own.
import Derived.Test.YtmalhgidhieamaaDoorPModbusDecodesx0
import Derived.Test.YtmalhgidhieamaaDoorPModbusDecodesx1
import Derived.Test.YtmalhgidhieamaaDoorPModbusDecodesx11
import Derived.Test.YtmalhgidhieamaaDoorPModbusDecodesx13
import Derived.Test.YtmalhgidhieamaaDoorPModbusDecodesx14
namespace Go.Proofs.YtmalhgidhieamaaDoor.PModbusDecodes
open Go.RowKit Go.Proofs.YtmalhgidhieamaaDoorW.PrintWords Go.Proofs.YtmalhgidhieamaaDoorW.PrintLast Go.Proofs.YtmalhgidhieamaaDoorW.PrintMore
attribute [local go_sem] max2_int min2_int max_two min_two max_three min_three max_four min_four   -- for this text's walks alone
set_option linter.unusedVariables false
set_option linter.unusedSimpArgs false

attribute [local go_sem high] eqA32
/-! ### signalbenchlaw30_same: function 13 -/
mutual
def signalbenchlaw30_same.j0 : Nat → List (S32) → List (S32) → Option (Bool)
 | 0, _, _ => none
 | k + 1, x0, x1 => signalbenchlaw30_same.l0 k x0 x1 0
def signalbenchlaw30_same.l0 : Nat → List (S32) → List (S32) → Int → Option (Bool)
 | 0, _, _, _ => none
 | k + 1, x0, x1, x5 => if x5 < (x0.length : Int) then (if 0 ≤ x5 then (if x5 < (x1.length : Int) then (if (!(((rd_T32 x0 x5).f0) == ((rd_T32 x1 x5).f0)) || (!(((rd_T32 x0 x5).f1) == ((rd_T32 x1 x5).f1)) || (!(((rd_T32 x0 x5).f2) == ((rd_T32 x1 x5).f2)) || (!(((rd_T32 x0 x5).f3) == ((rd_T32 x1 x5).f3)) || (!(((rd_T32 x0 x5).f4) == ((rd_T32 x1 x5).f4)) || (!((((rd_T32 x0 x5).f5).toList) == (((rd_T32 x1 x5).f5).toList)) || (!(((rd_T32 x0 x5).f6) == ((rd_T32 x1 x5).f6))))))))) = true then (some false) else (signalbenchlaw30_same.l0 k x0 x1 (wrap64 (x5 + 1)))) else (none)) else (none)) else (some true)
end
def signalbenchlaw30_same.f (k : Nat) (l0 : List (S32)) (l1 : List (S32)) : Option (Bool) := if (l0.length : Int) = (l1.length : Int) then (signalbenchlaw30_same.j0 k l0 l1) else (some false)
theorem signalbenchlaw30_same.mono_l : ∀ k, (∀ y0 y1, LeO (signalbenchlaw30_same.j0 k y0 y1) (signalbenchlaw30_same.j0 (k + 1) y0 y1)) ∧ (∀ y0 y1 y2, LeO (signalbenchlaw30_same.l0 k y0 y1 y2) (signalbenchlaw30_same.l0 (k + 1) y0 y1 y2))
 | 0 => ⟨fun _ _ r h => by simp [signalbenchlaw30_same.j0] at h, fun _ _ _ r h => by simp [signalbenchlaw30_same.l0] at h⟩
 | k + 1 => by
  obtain ⟨ih0, ih1⟩ := signalbenchlaw30_same.mono_l k
  refine ⟨?_, ?_⟩
  ·intro y0 y1
   unfold signalbenchlaw30_same.j0
   repeat' first
   | (with_reducible exact ih0 _ _)
   | (with_reducible exact ih1 _ _ _)
   | (with_reducible exact LeO.refl _)
   | (with_reducible exact LeO.none _)
   | (with_reducible refine LeO.ite ?_ ?_)
   | (with_reducible refine LeO.bind ?_ (fun _ => ?_))
   | exact ih0 _ _
   | exact ih1 _ _ _
   | exact LeO.none _
   | refine LeO.ite ?_ ?_
   | refine LeO.bind ?_ (fun _ => ?_)
  ·intro y0 y1 y2
   unfold signalbenchlaw30_same.l0
   repeat' first
   | (with_reducible exact ih0 _ _)
   | (with_reducible exact ih1 _ _ _)
   | (with_reducible exact LeO.refl _)
   | (with_reducible exact LeO.none _)
   | (with_reducible refine LeO.ite ?_ ?_)
   | (with_reducible refine LeO.bind ?_ (fun _ => ?_))
   | exact ih0 _ _
   | exact ih1 _ _ _
   | exact LeO.none _
   | refine LeO.ite ?_ ?_
   | refine LeO.bind ?_ (fun _ => ?_)
theorem signalbenchlaw30_same.mono : ∀ a0 a1 k, LeO (signalbenchlaw30_same.f k a0 a1) (signalbenchlaw30_same.f (k + 1) a0 a1) := by
 intro a0 a1 k
 obtain ⟨ih0, ih1⟩ := signalbenchlaw30_same.mono_l k
 unfold signalbenchlaw30_same.f
 repeat' first
   | (with_reducible exact ih0 _ _)
   | (with_reducible exact ih1 _ _ _)
   | (with_reducible exact LeO.refl _)
   | (with_reducible exact LeO.none _)
   | (with_reducible refine LeO.ite ?_ ?_)
   | (with_reducible refine LeO.bind ?_ (fun _ => ?_))
   | exact ih0 _ _
   | exact ih1 _ _ _
   | exact LeO.none _
   | refine LeO.ite ?_ ?_
   | refine LeO.bind ?_ (fun _ => ?_)
set_option maxHeartbeats 8000000 in
set_option maxRecDepth 100000 in
theorem signalbenchlaw30_same.calls (k : Nat) (A0 : Option Addr) (c0 : Nat) (l0 : List (S32)) (A1 : Option Addr) (c1 : Nat) (l1 : List (S32)) (r : Bool) (w : World) (hr0 : Kd.C k32 w A0 l0.length l0) (hc0 : l0.length ≤ c0) (hr1 : Kd.C k32 w A1 l1.length l1) (hc1 : l1.length ≤ c1) (h : signalbenchlaw30_same.f k l0 l1 = some r) :
  Calls Tryd.prog 13 #[.slice A0 l0.length c0, .slice A1 l1.length c1] w fun e w' => e = .returned (.bool r) ∧ Drawn0 w w' := by
 have hu32 := Tryd.underlying32; have HR0 := sA hr0; have HC0 := sA hc0; clear hr0 hc0; have HR1 := sA hr1; have HC1 := sA hc1; clear hr1 hc1; have H : (if (l0.length : Int) = (l1.length : Int) then (signalbenchlaw30_same.j0 k l0 l1) else (some false)) = some r := h; clear h; have HC3 := sA H; clear H
 go_enter Tryd.func13, Tryd.ntmps13
 go_upto_if 10 with (fail)
 repeat (go_quiet (fail); go_upto_if 10 with (fail))
 go_cut [] (fun wc => ∃ (kq : Nat), Aside0 (signalbenchlaw30_same.j0 kq l0 l1 = some r) ∧ Aside0 (kq ≤ k) ∧ Drawn0 w wc)
 case first =>
  have H := HC3.out; clear HC3
  by_cases c4 : (l0.length : Int) = (l1.length : Int)
  ·rw [if_pos c4] at H
   have c4b0 : ((l0.length : Int) == (l1.length : Int)) = true := beq_iff_eq.mpr c4; have c4b1 : ((l0.length : Int) != (l1.length : Int)) = false := bne_eq_false_iff_eq.mpr c4
   have c4b2 : (l0.length == l1.length) = true := by first | simpa using c4 | (simp at c4 ⊢; omega)
   clear c4
   (first | rw [c4b0] | (simp only [i64_w, i32_w]; rw [c4b0]) | skip)
   have H' := sA H; clear H
   go_wp2
   repeat (go_quiet (fail); try go_wp2)
   go_meet
   case rel => exact ⟨_, H', ⟨by first | omega | exact Nat.le_refl _⟩, by repeat (first | exact Drawn0.refl _ | apply Drawn0.step)⟩
  ·rw [if_neg c4] at H
   have c4b0 : ((l0.length : Int) == (l1.length : Int)) = false := beq_eq_false_iff_ne.mpr c4; have c4b1 : ((l0.length : Int) != (l1.length : Int)) = true := bne_iff_ne.mpr c4
   have c4b2 : (l0.length == l1.length) = false := by first | simpa using c4 | (simp at c4 ⊢; omega)
   (first | rw [c4b0] | (simp only [i64_w, i32_w]; rw [c4b0]) | skip)
   obtain rfl := Option.some.inj H
   go_wp2
   repeat (go_quiet (fail); try go_wp2)
   go_ret
   exact ⟨by first | rfl | (simp; done) | (simp [*]; done), by repeat (first | exact Drawn0.refl _ | apply Drawn0.step)⟩
 case rest =>
  clear HC3
  try clear c1
  obtain ⟨kq, HA, HJ2, ⟨mc2, rfl⟩⟩ := hcut
  cases kq with
  | zero => exact absurd HA.out (by simp [signalbenchlaw30_same.j0])
  | succ kj2 =>
   have H := HA.out; clear HA
   simp only [signalbenchlaw30_same.j0] at H
   have H' := sA H; clear H
   go_wp2
   repeat (go_quiet (fail); try go_wp2)
   go_loopg [5] kj2 (fun kq v5 w' => ∃ (x5_2 : Int), v5 = .int .i64 x5_2 ∧ Aside0 (signalbenchlaw30_same.l0 kq l0 l1 x5_2 = some r) ∧ Aside0 (kq ≤ kj2) ∧ Drawn0 w w')
   case atStart => exact ⟨(0), (by first | rfl | (simp; done) | (simp [*]; done)), H', ⟨Nat.le_refl _⟩, by repeat (first | exact Drawn0.refl _ | apply Drawn0.step)⟩
   case round =>
    clear H'
    try clear c1
    obtain ⟨x5_2, rfl, HA, HK2, ⟨m2, rfl⟩⟩ := hrel
    cases gk with
    | zero => exact absurd HA.out (by simp [signalbenchlaw30_same.l0])
    | succ k2 =>
     have H := HA.out; clear HA
     simp only [signalbenchlaw30_same.l0] at H
     by_cases c5 : x5_2 < (l0.length : Int)
     ·rw [if_pos c5] at H
      have c5b0 : decide (x5_2 < (l0.length : Int)) = true := decide_eq_true c5; clear c5
      by_cases c6 : 0 ≤ x5_2
      ·rw [if_pos c6] at H
       have c6b0 : decide (0 ≤ x5_2) = true := decide_eq_true c6; clear c6
       by_cases c7 : x5_2 < (l1.length : Int)
       ·rw [if_pos c7] at H
        have c7b0 : decide (x5_2 < (l1.length : Int)) = true := decide_eq_true c7; clear c7
        by_cases c8 : (!(((rd_T32 l0 x5_2).f0) == ((rd_T32 l1 x5_2).f0)) || (!(((rd_T32 l0 x5_2).f1) == ((rd_T32 l1 x5_2).f1)) || (!(((rd_T32 l0 x5_2).f2) == ((rd_T32 l1 x5_2).f2)) || (!(((rd_T32 l0 x5_2).f3) == ((rd_T32 l1 x5_2).f3)) || (!(((rd_T32 l0 x5_2).f4) == ((rd_T32 l1 x5_2).f4)) || (!((((rd_T32 l0 x5_2).f5).toList) == (((rd_T32 l1 x5_2).f5).toList)) || (!(((rd_T32 l0 x5_2).f6) == ((rd_T32 l1 x5_2).f6))))))))) = true
        ·rw [if_pos c8] at H
         have c8b0 : (!(((rd_T32 l0 x5_2).f0) == ((rd_T32 l1 x5_2).f0)) || (!(((rd_T32 l0 x5_2).f1) == ((rd_T32 l1 x5_2).f1)) || (!(((rd_T32 l0 x5_2).f2) == ((rd_T32 l1 x5_2).f2)) || (!(((rd_T32 l0 x5_2).f3) == ((rd_T32 l1 x5_2).f3)) || (!(((rd_T32 l0 x5_2).f4) == ((rd_T32 l1 x5_2).f4)) || (!((((rd_T32 l0 x5_2).f5).toList) == (((rd_T32 l1 x5_2).f5).toList)) || (!(((rd_T32 l0 x5_2).f6) == ((rd_T32 l1 x5_2).f6))))))))) = true := c8; (try (have c8b1 : ((rd_T32 l0 x5_2).f0 = ((rd_T32 l1 x5_2).f0) ∧ (rd_T32 l0 x5_2).f1 = ((rd_T32 l1 x5_2).f1) ∧ (rd_T32 l0 x5_2).f2 = ((rd_T32 l1 x5_2).f2) ∧ (rd_T32 l0 x5_2).f3 = ((rd_T32 l1 x5_2).f3) ∧ (rd_T32 l0 x5_2).f4 = ((rd_T32 l1 x5_2).f4) ∧ ((rd_T32 l0 x5_2).f5).toList = (((rd_T32 l1 x5_2).f5).toList) ∧ (rd_T32 l0 x5_2).f6 = ((rd_T32 l1 x5_2).f6)) = False := eq_false (by intro h_; have e_ := c8; simp [h_] at e_))); clear c8; obtain rfl := Option.some.inj H; have p290 : 0 ≤ (x5_2 : Int) := of_decide_eq_true (by first | (with_reducible assumption) | assumption); have q290 : x5_2 < (l0.length : Int) := of_decide_eq_true (by first | (with_reducible assumption) | assumption); obtain ⟨ad290, e290, hx290_0, hx290_1, hx290_2, hx290_3, hx290_4, hx290_5, hx290_6⟩ := at_T32 HR0.out x5_2 p290 q290
         cases e290
         replace p290 := eq_true p290; replace q290 := eq_true q290; have p291 : 0 ≤ (x5_2 : Int) := of_decide_eq_true (by first | (with_reducible assumption) | assumption); have q291 : x5_2 < (l1.length : Int) := of_decide_eq_true (by first | (with_reducible assumption) | assumption); obtain ⟨ad291, e291, hx291_0, hx291_1, hx291_2, hx291_3, hx291_4, hx291_5, hx291_6⟩ := at_T32 HR1.out x5_2 p291 q291
         cases e291
         replace p291 := eq_true p291; replace q291 := eq_true q291
         go_wp2
         repeat (go_quiet (fail); try go_wp2)
         go_ret
         exact ⟨by first | rfl | (simp; done) | (simp [*]; done), by repeat (first | exact Drawn0.refl _ | apply Drawn0.step)⟩
        ·rw [if_neg c8] at H
         have c8b0 : (!(((rd_T32 l0 x5_2).f0) == ((rd_T32 l1 x5_2).f0)) || (!(((rd_T32 l0 x5_2).f1) == ((rd_T32 l1 x5_2).f1)) || (!(((rd_T32 l0 x5_2).f2) == ((rd_T32 l1 x5_2).f2)) || (!(((rd_T32 l0 x5_2).f3) == ((rd_T32 l1 x5_2).f3)) || (!(((rd_T32 l0 x5_2).f4) == ((rd_T32 l1 x5_2).f4)) || (!((((rd_T32 l0 x5_2).f5).toList) == (((rd_T32 l1 x5_2).f5).toList)) || (!(((rd_T32 l0 x5_2).f6) == ((rd_T32 l1 x5_2).f6))))))))) = false := by simpa using c8
         (try (have c8b1 : ((rd_T32 l0 x5_2).f0 = ((rd_T32 l1 x5_2).f0) ∧ (rd_T32 l0 x5_2).f1 = ((rd_T32 l1 x5_2).f1) ∧ (rd_T32 l0 x5_2).f2 = ((rd_T32 l1 x5_2).f2) ∧ (rd_T32 l0 x5_2).f3 = ((rd_T32 l1 x5_2).f3) ∧ (rd_T32 l0 x5_2).f4 = ((rd_T32 l1 x5_2).f4) ∧ ((rd_T32 l0 x5_2).f5).toList = (((rd_T32 l1 x5_2).f5).toList) ∧ (rd_T32 l0 x5_2).f6 = ((rd_T32 l1 x5_2).f6)) = True := eq_true (by simpa using c8))); clear c8; have H' := sA H; clear H; have p290 : 0 ≤ (x5_2 : Int) := of_decide_eq_true (by first | (with_reducible assumption) | assumption); have q290 : x5_2 < (l0.length : Int) := of_decide_eq_true (by first | (with_reducible assumption) | assumption); obtain ⟨ad290, e290, hx290_0, hx290_1, hx290_2, hx290_3, hx290_4, hx290_5, hx290_6⟩ := at_T32 HR0.out x5_2 p290 q290
         cases e290
         replace p290 := eq_true p290; replace q290 := eq_true q290; have p291 : 0 ≤ (x5_2 : Int) := of_decide_eq_true (by first | (with_reducible assumption) | assumption); have q291 : x5_2 < (l1.length : Int) := of_decide_eq_true (by first | (with_reducible assumption) | assumption); obtain ⟨ad291, e291, hx291_0, hx291_1, hx291_2, hx291_3, hx291_4, hx291_5, hx291_6⟩ := at_T32 HR1.out x5_2 p291 q291
         cases e291
         replace p291 := eq_true p291; replace q291 := eq_true q291
         go_wp2
         repeat (go_quiet (fail); try go_wp2)
         go_roundg k2
         case measure => have := HJ2.out; have := HK2.out; omega
         case rel => exact ⟨(wrap64 (x5_2 + 1)), (by first | rfl | (simp; done) | (simp [*]; done)), H', ⟨by have := HJ2.out; have := HK2.out; omega⟩, by repeat (first | exact Drawn0.refl _ | apply Drawn0.step)⟩
       ·rw [if_neg c7] at H
        exact absurd H (by simp)
      ·rw [if_neg c6] at H
       exact absurd H (by simp)
     ·rw [if_neg c5] at H
      have c5b0 : decide (x5_2 < (l0.length : Int)) = false := decide_eq_false c5; clear c5; obtain rfl := Option.some.inj H
      go_wp2
      repeat (go_quiet (fail); try go_wp2)
      go_ret
      exact ⟨by first | rfl | (simp; done) | (simp [*]; done), by repeat (first | exact Drawn0.refl _ | apply Drawn0.step)⟩

/-! ### signalbenchref30_End: function 17 -/
def signalbenchref30_End.f (k : Nat) (a0_0 : Int) (a1_0 : Int) (a1_1 : Int) (a1_2 : Int) (a1_3 : Int) (a1_4 : Int) (a1_5 : Int) (a1_6 : Int) (a1_7 : ByteArray) : Option ((List (S32))) := (signalbenchref30_Check.f a0_0).bind fun t294 => (if t294 = 0 then (if a1_0 = 0 then (some ([] : List (S32))) else ((signalbenchref30_frame.f k a1_0 a1_1 a1_2 a1_3 a1_4 a1_5 a1_6 a1_7).bind fun bt295 => (some (([(⟨bt295.1, bt295.2.1, bt295.2.2.1, bt295.2.2.2.1, bt295.2.2.2.2.1, bt295.2.2.2.2.2.1, bt295.2.2.2.2.2.2⟩ : S32)] : List (S32)))))) else (some ([] : List (S32))))
theorem signalbenchref30_End.mono : ∀ a0 a1 a2 a3 a4 a5 a6 a7 a8 k, LeO (signalbenchref30_End.f k a0 a1 a2 a3 a4 a5 a6 a7 a8) (signalbenchref30_End.f (k + 1) a0 a1 a2 a3 a4 a5 a6 a7 a8) := by
 intro a0 a1 a2 a3 a4 a5 a6 a7 a8 k
 unfold signalbenchref30_End.f
 repeat' first
   | (with_reducible exact signalbenchref30_frame.mono _ _ _ _ _ _ _ _ _)
   | (with_reducible exact LeO.refl _)
   | (with_reducible exact LeO.none _)
   | (with_reducible refine LeO.ite ?_ ?_)
   | (with_reducible refine LeO.bind ?_ (fun _ => ?_))
   | exact signalbenchref30_frame.mono _ _ _ _ _ _ _ _ _
   | exact LeO.none _
   | refine LeO.ite ?_ ?_
   | refine LeO.bind ?_ (fun _ => ?_)
set_option maxHeartbeats 8000000 in
set_option maxRecDepth 100000 in
theorem signalbenchref30_End.calls (k : Nat) (a0_0 : Int) (a1_0 : Int) (a1_1 : Int) (a1_2 : Int) (a1_3 : Int) (a1_4 : Int) (a1_5 : Int) (a1_6 : Int) (a1_7 : ByteArray) (r : List (S32)) (w : World) (h : signalbenchref30_End.f k a0_0 a1_0 a1_1 a1_2 a1_3 a1_4 a1_5 a1_6 a1_7 = some r) :
  Calls Tryd.prog 17 #[.agg #[.int .i64 a0_0], .agg #[.int .i64 a1_0, .int .i64 a1_1, .int .i64 a1_2, .int .i64 a1_3, .int .i64 a1_4, .int .i64 a1_5, .int .i64 a1_6, .string a1_7]] w fun e w' => ∃ v0_ : Value, e = .returned (v0_) ∧ Kd.R k32 32 w' w.heap.size (fun _ => True) v0_ r ∧ Below w.heap.size w w' := by
 have hu23 := Tryd.underlying23; have hu27 := Tryd.underlying27; have HB := sA (Below.refl w.heap.size w); have H : ((signalbenchref30_Check.f a0_0).bind fun t294 => (if t294 = 0 then (if a1_0 = 0 then (some ([] : List (S32))) else ((signalbenchref30_frame.f k a1_0 a1_1 a1_2 a1_3 a1_4 a1_5 a1_6 a1_7).bind fun bt295 => (some (([(⟨bt295.1, bt295.2.1, bt295.2.2.1, bt295.2.2.2.1, bt295.2.2.2.2.1, bt295.2.2.2.2.2.1, bt295.2.2.2.2.2.2⟩ : S32)] : List (S32)))))) else (some ([] : List (S32))))) = some r := h; clear h; replace H := Option.bind_eq_some_iff.mp H; obtain ⟨t294, A30, H⟩ := H; replace H : (if t294 = 0 then (if a1_0 = 0 then (some ([] : List (S32))) else ((signalbenchref30_frame.f k a1_0 a1_1 a1_2 a1_3 a1_4 a1_5 a1_6 a1_7).bind fun bt295 => (some (([(⟨bt295.1, bt295.2.1, bt295.2.2.1, bt295.2.2.2.1, bt295.2.2.2.2.1, bt295.2.2.2.2.2.1, bt295.2.2.2.2.2.2⟩ : S32)] : List (S32)))))) else (some ([] : List (S32)))) = some r := H; have A3 := sA A30; clear A30
 by_cases c4 : t294 = 0
 ·rw [if_pos c4] at H
  have c4b0 : (t294 == 0) = true := beq_iff_eq.mpr c4; have c4b1 : (t294 != 0) = false := bne_eq_false_iff_eq.mpr c4; clear c4
  by_cases c5 : a1_0 = 0
  ·rw [if_pos c5] at H
   have c5b0 : (a1_0 == 0) = true := beq_iff_eq.mpr c5; have c5b1 : (a1_0 != 0) = false := bne_eq_false_iff_eq.mpr c5; clear c5; obtain rfl := Option.some.inj H
   go_enter Tryd.func17, Tryd.ntmps17
   go_wp2_with (first | ((with_reducible refine gate_dst (N := 2) rfl ?_); refine boxK 2 #[.int .i64 a0_0] 23 ?_; intro gb292 hg w6 hbox hb; have BK292 := sA hbox; have GW292 := bsz HB hg; have GE292 := bsz HB hg; replace HB := bst HB hb; clear hb hbox hg) | ((with_reducible refine gate_dst (N := 3) rfl ?_); refine boxK 3 #[.int .i64 a1_0, .int .i64 a1_1, .int .i64 a1_2, .int .i64 a1_3, .int .i64 a1_4, .int .i64 a1_5, .int .i64 a1_6, .string a1_7] 27 ?_; intro gb293 hg w7 hbox hb; have BK293 := sA hbox; have GW293 := bsz HB hg; have GE293 := bsz HB hg; have NB292_293 := bnl BK292 hg; have NB293_292 := bng BK292 hg; replace BK292 := sA (blkb BK292.out hb); replace HB := bst HB hb; clear hb hbox hg; have hnb8 := NB292_293.out; have hnc8 := NB293_292.out; obtain ⟨_,_⟩ := cQ1 BK292) | ((with_reducible refine gate_callee (f := 15) rfl ?_); refine goesK (some 6) Tryd.func15 #[.agg #[.int .i64 a0_0]] ?_; (with_reducible refine (signalbenchref30_Check.calls a0_0 t294 _ A3.out).mono ?_); rintro e w10 ⟨rfl, hb⟩; refine ⟨_, rfl, ?_⟩; replace BK292 := sA (blkb BK292.out hb); replace BK293 := sA (blkb BK293.out hb); replace HB := bst HB hb; (try clear hb); obtain ⟨hcz11_0,hcz11_1,hcz11_2,hcz11_3,hcz11_4,hcz11_5,hcz11_6,hcz11_7,hfz11_0,hfz11_1,hfz11_2,hfz11_3,hfz11_4,hfz11_5,hfz11_6,hfz11_7⟩ := cQ8 BK293))
   go_ret
   exact ⟨_, eW_, by first | exact Kd.R_nil _ _ _ _ _ | exact Kd.N_nil _ _ _ _ _ | exact Kd.V_nil _ _ _ _ _ | exact Kd.Q_nil _ _ _ _ _ | exact Kd.S_nil _ _ _ _ _, hbw HB.out⟩
  ·rw [if_neg c5] at H
   have c5b0 : (a1_0 == 0) = false := beq_eq_false_iff_ne.mpr c5; have c5b1 : (a1_0 != 0) = true := bne_iff_ne.mpr c5; replace H := Option.bind_eq_some_iff.mp H; obtain ⟨⟨t295, t296, t297, t298, t299, t300, t301⟩, A120, H⟩ := H; replace H : (some (([(⟨t295, t296, t297, t298, t299, t300, t301⟩ : S32)] : List (S32)))) = some r := H; have A12 := sA A120; clear A120; obtain ⟨y302, hy302⟩ : ∃ y_ : List (S32), y_ = (([(⟨t295, t296, t297, t298, t299, t300, t301⟩ : S32)] : List (S32))) := ⟨_, rfl⟩
   replace H : (some y302) = some r := by first | (rw [hy302]; with_reducible exact H) | (have H2_ := (Option.bind_some _ _).symm.trans H; rw [hy302]; with_reducible exact H2_) | (have H2_ := (Option.bind_some _ _).symm.trans H; with_reducible exact H2_) | with_reducible exact H | (rw [hy302]; exact H) | exact H
   have Ny302 := sA hy302; clear hy302; obtain rfl := Option.some.inj H
   go_enter Tryd.func17, Tryd.ntmps17
   go_wp2_with (first | ((with_reducible refine gate_dst (N := 2) rfl ?_); refine boxK 2 #[.int .i64 a0_0] 23 ?_; intro gb292 hg w13 hbox hb; have BK292 := sA hbox; have GW292 := bsz HB hg; have GE292 := bsz HB hg; replace HB := bst HB hb; clear hb hbox hg) | ((with_reducible refine gate_dst (N := 3) rfl ?_); refine boxK 3 #[.int .i64 a1_0, .int .i64 a1_1, .int .i64 a1_2, .int .i64 a1_3, .int .i64 a1_4, .int .i64 a1_5, .int .i64 a1_6, .string a1_7] 27 ?_; intro gb293 hg w14 hbox hb; have BK293 := sA hbox; have GW293 := bsz HB hg; have GE293 := bsz HB hg; have NB292_293 := bnl BK292 hg; have NB293_292 := bng BK292 hg; replace BK292 := sA (blkb BK292.out hb); replace HB := bst HB hb; clear hb hbox hg; have hnb15 := NB292_293.out; have hnc15 := NB293_292.out; obtain ⟨_,_⟩ := cQ1 BK292) | ((with_reducible refine gate_callee (f := 15) rfl ?_); refine goesK (some 6) Tryd.func15 #[.agg #[.int .i64 a0_0]] ?_; (with_reducible refine (signalbenchref30_Check.calls a0_0 t294 _ A3.out).mono ?_); rintro e w17 ⟨rfl, hb⟩; refine ⟨_, rfl, ?_⟩; replace BK292 := sA (blkb BK292.out hb); replace BK293 := sA (blkb BK293.out hb); replace HB := bst HB hb; (try clear hb); (try clear hk); obtain ⟨_,_,_,_,_,_,_,_,_,_,_,_,_,_,_,_⟩ := cQ8 BK293) | ((with_reducible refine gate_callee (f := 29) rfl ?_); refine goesK (some 14) Tryd.func29 #[.agg #[.int .i64 a1_0, .int .i64 a1_1, .int .i64 a1_2, .int .i64 a1_3, .int .i64 a1_4, .int .i64 a1_5, .int .i64 a1_6, .string a1_7]] ?_; (with_reducible refine (signalbenchref30_frame.calls k a1_0 a1_1 a1_2 a1_3 a1_4 a1_5 a1_6 a1_7 t295 t296 t297 t298 t299 t300 t301 _ A12.out).mono ?_); rintro e w19 ⟨rfl, hb⟩; refine ⟨_, rfl, ?_⟩; replace BK292 := sA (blkb BK292.out hb); replace BK293 := sA (blkb BK293.out hb); replace HB := bst HB hb; (try clear hb); (try clear hk)) | ((with_reducible refine gate_dst (N := 15) rfl ?_); refine Kd.R_lit k32 _ 32 ?hg (N := 15) ?hd (xs := ([(⟨t295, t296, t297, t298, t299, t300, t301⟩ : S32)] : List (S32))) (inner := [.int .i64 t295, .int .i64 t296, .int .i64 t297, .int .i64 t298, .int .i64 t299, .string t300, .int .i64 t301]) (ok := fun _ => True) (okp := fun _ => True) ?hr ?hp (fun _ hk => hk) trivial (Below.refl _ _) (Nat.le_refl _) (by simp) ?_; (case hd => rfl); (case hg => rfl); (case hr => first | (go_simp; done) | (go_simp; rfl)); (case hp => exact (Reps.c7 (show Kd.M k32 _ _ _ (⟨t295, t296, t297, t298, t299, t300, t301⟩ : S32) [.int .i64 t295, .int .i64 t296, .int .i64 t297, .int .i64 t298, .int .i64 t299, .string t300, .int .i64 t301] from (k32_mkM _ _ _ (⟨t295, t296, t297, t298, t299, t300, t301⟩ : S32) )) (Reps.none _ _))); intro v303 w20 ho21 hb hg_ hnew_; clear hg_ hnew_; (first | rw [← Ny302.out] at ho21 | (simp only [Int.reduceToNat] at ho21; rw [← Ny302.out] at ho21)); have HO304 := sA (Kd.R_lower ho21 (below_size (hbw HB.out))); replace BK292 := sA (blkb BK292.out hb); replace BK293 := sA (blkb BK293.out hb); replace HB := bst HB hb; clear hb ho21))
   go_ret
   exact ⟨_, eW_, by (with_reducible repeat (first | apply Kd.R_alloc | apply Kd.R_drewN | apply Kd.R_drew)); exact HO304.out, hbw HB.out⟩
 ·rw [if_neg c4] at H
  have c4b0 : (t294 == 0) = false := beq_eq_false_iff_ne.mpr c4; have c4b1 : (t294 != 0) = true := bne_iff_ne.mpr c4; obtain rfl := Option.some.inj H
  go_enter Tryd.func17, Tryd.ntmps17
  go_wp2_with (first | ((with_reducible refine gate_dst (N := 2) rfl ?_); refine boxK 2 #[.int .i64 a0_0] 23 ?_; intro gb292 hg w22 hbox hb; have BK292 := sA hbox; have GW292 := bsz HB hg; have GE292 := bsz HB hg; replace HB := bst HB hb; clear hb hbox hg) | ((with_reducible refine gate_dst (N := 3) rfl ?_); refine boxK 3 #[.int .i64 a1_0, .int .i64 a1_1, .int .i64 a1_2, .int .i64 a1_3, .int .i64 a1_4, .int .i64 a1_5, .int .i64 a1_6, .string a1_7] 27 ?_; intro gb293 hg w23 hbox hb; have BK293 := sA hbox; have GW293 := bsz HB hg; have GE293 := bsz HB hg; have NB292_293 := bnl BK292 hg; have NB293_292 := bng BK292 hg; replace BK292 := sA (blkb BK292.out hb); replace HB := bst HB hb; clear hb hbox hg; have hnb24 := NB292_293.out; have hnc24 := NB293_292.out; obtain ⟨_,_⟩ := cQ1 BK292) | ((with_reducible refine gate_callee (f := 15) rfl ?_); refine goesK (some 6) Tryd.func15 #[.agg #[.int .i64 a0_0]] ?_; (with_reducible refine (signalbenchref30_Check.calls a0_0 t294 _ A3.out).mono ?_); rintro e w26 ⟨rfl, hb⟩; refine ⟨_, rfl, ?_⟩; replace BK292 := sA (blkb BK292.out hb); replace BK293 := sA (blkb BK293.out hb); replace HB := bst HB hb; (try clear hb)))
  go_ret
  exact ⟨_, eW_, by first | exact Kd.R_nil _ _ _ _ _ | exact Kd.N_nil _ _ _ _ _ | exact Kd.V_nil _ _ _ _ _ | exact Kd.Q_nil _ _ _ _ _ | exact Kd.S_nil _ _ _ _ _, hbw HB.out⟩

/-! ### signalbenchref30_Decode: function 19 -/
def signalbenchref30_Decode.l0 : Nat → List (S32) → List (S32) → Int → Int → Int → Int → Int → Int → Int → Int → Int → ByteArray → Option ((List (S32)))
 | 0, _, _, _, _, _, _, _, _, _, _, _, _ => none
 | k + 1, x1, x5, x7, x306000, x318000, x318001, x318002, x318003, x318004, x318005, x318006, x318007 => if x7 < (x1.length : Int) then (if 0 ≤ x7 then ((signalbenchref30_Step.f k x306000 x318000 x318001 x318002 x318003 x318004 x318005 x318006 x318007 ((rd_T32 x1 x7).f0) ((rd_T32 x1 x7).f1) ((rd_T32 x1 x7).f2) ((rd_T32 x1 x7).f3) ((rd_T32 x1 x7).f4) ((rd_T32 x1 x7).f5) ((rd_T32 x1 x7).f6)).bind fun bt319 => (if x5.length + bt319.2.2.2.2.2.2.2.2.length < 2199023255552 then (signalbenchref30_Decode.l0 k x1 (x5 ++ bt319.2.2.2.2.2.2.2.2) (wrap64 (x7 + 1)) x306000 bt319.1 bt319.2.1 bt319.2.2.1 bt319.2.2.2.1 bt319.2.2.2.2.1 bt319.2.2.2.2.2.1 bt319.2.2.2.2.2.2.1 bt319.2.2.2.2.2.2.2.1) else (none))) else (none)) else ((signalbenchref30_End.f k x306000 x318000 x318001 x318002 x318003 x318004 x318005 x318006 x318007).bind fun t334 => (if x5.length + t334.length < 2199023255552 then (some (x5 ++ t334)) else (none)))
def signalbenchref30_Decode.f (k : Nat) (a0_0 : Int) (l1 : List (S32)) : Option ((List (S32))) := (signalbenchref30_Start.f a0_0).bind fun bt309 => (signalbenchref30_Decode.l0 k l1 (([] : List (S32))) 0 a0_0 bt309.1 bt309.2.1 bt309.2.2.1 bt309.2.2.2.1 bt309.2.2.2.2.1 bt309.2.2.2.2.2.1 bt309.2.2.2.2.2.2.1 bt309.2.2.2.2.2.2.2)
theorem signalbenchref30_Decode.mono_l : ∀ k, (∀ y0 y1 y2 y3 y4 y5 y6 y7 y8 y9 y10 y11, LeO (signalbenchref30_Decode.l0 k y0 y1 y2 y3 y4 y5 y6 y7 y8 y9 y10 y11) (signalbenchref30_Decode.l0 (k + 1) y0 y1 y2 y3 y4 y5 y6 y7 y8 y9 y10 y11))
 | 0 => fun _ _ _ _ _ _ _ _ _ _ _ _ r h => by simp [signalbenchref30_Decode.l0] at h
 | k + 1 => by
  have ih0 := signalbenchref30_Decode.mono_l k
  ·intro y0 y1 y2 y3 y4 y5 y6 y7 y8 y9 y10 y11
   unfold signalbenchref30_Decode.l0
   repeat' first
   | (with_reducible exact ih0 _ _ _ _ _ _ _ _ _ _ _ _)
   | (with_reducible exact signalbenchref30_End.mono _ _ _ _ _ _ _ _ _ _)
   | (with_reducible exact signalbenchref30_Step.mono _ _ _ _ _ _ _ _ _ _ _ _ _ _ _ _ _)
   | (with_reducible exact LeO.refl _)
   | (with_reducible exact LeO.none _)
   | (with_reducible refine LeO.ite ?_ ?_)
   | (with_reducible refine LeO.bind ?_ (fun _ => ?_))
   | exact ih0 _ _ _ _ _ _ _ _ _ _ _ _
   | exact signalbenchref30_End.mono _ _ _ _ _ _ _ _ _ _
   | exact signalbenchref30_Step.mono _ _ _ _ _ _ _ _ _ _ _ _ _ _ _ _ _
   | exact LeO.none _
   | refine LeO.ite ?_ ?_
   | refine LeO.bind ?_ (fun _ => ?_)
theorem signalbenchref30_Decode.mono : ∀ a0 a1 k, LeO (signalbenchref30_Decode.f k a0 a1) (signalbenchref30_Decode.f (k + 1) a0 a1) := by
 intro a0 a1 k; have ih0 := signalbenchref30_Decode.mono_l k
 unfold signalbenchref30_Decode.f
 repeat' first
   | (with_reducible exact ih0 _ _ _ _ _ _ _ _ _ _ _ _)
   | (with_reducible exact signalbenchref30_End.mono _ _ _ _ _ _ _ _ _ _)
   | (with_reducible exact signalbenchref30_Step.mono _ _ _ _ _ _ _ _ _ _ _ _ _ _ _ _ _)
   | (with_reducible exact LeO.refl _)
   | (with_reducible exact LeO.none _)
   | (with_reducible refine LeO.ite ?_ ?_)
   | (with_reducible refine LeO.bind ?_ (fun _ => ?_))
   | exact ih0 _ _ _ _ _ _ _ _ _ _ _ _
   | exact signalbenchref30_End.mono _ _ _ _ _ _ _ _ _ _
   | exact signalbenchref30_Step.mono _ _ _ _ _ _ _ _ _ _ _ _ _ _ _ _ _
   | exact LeO.none _
   | refine LeO.ite ?_ ?_
   | refine LeO.bind ?_ (fun _ => ?_)
def signalbenchref30_Decode.T6 : Bool × List (List Nat × List Nat) := (true, [([], []), ([], []), ([], []), ([], []), ([2, 3], [2, 3]), ([4], [4]), ([0, 1, 5], [0, 1, 5]), ([6], [6]), ([7], [7]), ([7], [7]), ([], []), ([10, 8, 6, 0, 1, 2, 3, 4, 5, 6, 7, 8, 10], [8, 10]), ([9, 11, 0, 1, 2, 3, 4, 5, 6, 7, 8, 9, 10, 11], [9])])
def signalbenchref30_Decode.B6 : List Nat := [0, 0, 0, 0, 12, 28, 63, 127, 255, 255, 0, 1535, 4095]
theorem signalbenchref30_Decode.tab6 : rtab .any (opsOf Tryd.f19 6) = signalbenchref30_Decode.T6 := by kernel_rfl
theorem signalbenchref30_Decode.bits6 : waitsOk signalbenchref30_Decode.T6.2 signalbenchref30_Decode.B6 = true := by kernel_rfl
set_option maxHeartbeats 8000000 in
set_option maxRecDepth 100000 in
theorem signalbenchref30_Decode.calls (k : Nat) (a0_0 : Int) (A1 : Option Addr) (c1 : Nat) (l1 : List (S32)) (r : List (S32)) (w : World) (hr1 : Kd.C k32 w A1 l1.length l1) (hc1 : l1.length ≤ c1) (h : signalbenchref30_Decode.f k a0_0 l1 = some r) :
  Calls Tryd.prog 19 #[.agg #[.int .i64 a0_0], .slice A1 l1.length c1] w fun e w' => ∃ v0_ : Value, e = .returned (v0_) ∧ Kd.R k32 32 w' w.heap.size (fun _ => True) v0_ r ∧ Below w.heap.size w w' := by
 have hu23 := Tryd.underlying23; have hu27 := Tryd.underlying27; have hu32 := Tryd.underlying32; have HR1 := sA hr1; have HC1 := sA hc1; clear hr1 hc1; have HB := sA (Below.refl w.heap.size w); have H : ((signalbenchref30_Start.f a0_0).bind fun bt309 => (signalbenchref30_Decode.l0 k l1 (([] : List (S32))) 0 a0_0 bt309.1 bt309.2.1 bt309.2.2.1 bt309.2.2.2.1 bt309.2.2.2.2.1 bt309.2.2.2.2.2.1 bt309.2.2.2.2.2.2.1 bt309.2.2.2.2.2.2.2)) = some r := h; clear h; obtain ⟨y306, hy306⟩ : ∃ y_ : List (S32), y_ = (([] : List (S32))) := ⟨_, rfl⟩
 replace H : ((signalbenchref30_Start.f a0_0).bind fun bt309 => (signalbenchref30_Decode.l0 k l1 y306 0 a0_0 bt309.1 bt309.2.1 bt309.2.2.1 bt309.2.2.2.1 bt309.2.2.2.2.1 bt309.2.2.2.2.2.1 bt309.2.2.2.2.2.2.1 bt309.2.2.2.2.2.2.2)) = some r := by first | (rw [hy306]; with_reducible exact H) | (have H2_ := (Option.bind_some _ _).symm.trans H; rw [hy306]; with_reducible exact H2_) | (have H2_ := (Option.bind_some _ _).symm.trans H; with_reducible exact H2_) | with_reducible exact H | (rw [hy306]; exact H) | exact H
 have Ny306 := sA hy306; clear hy306; replace H := Option.bind_eq_some_iff.mp H; obtain ⟨⟨t309, t310, t311, t312, t313, t314, t315, t316⟩, A30, H⟩ := H; replace H : (signalbenchref30_Decode.l0 k l1 y306 0 a0_0 t309 t310 t311 t312 t313 t314 t315 t316) = some r := H; have A3 := sA A30; clear A30; have H' := sA H; clear H
 go_enter Tryd.func19, Tryd.ntmps19
 go_wp2_with (first | ((with_reducible refine gate_dst (N := 2) rfl ?_); refine boxK 2 #[.int .i64 a0_0] 23 ?_; intro gb305 hg w4 hbox hb; have BK305 := sA hbox; have GW305 := bsz HB hg; have GE305 := bsz HB hg; replace HB := bst HB hb; clear hb hbox hg) | ((with_reducible refine gate_dst (N := 10) rfl ?_); refine Kd.R_lit k32 _ 32 ?hg (N := 10) ?hd (xs := ([] : List (S32))) (inner := []) (ok := fun _ => True) (okp := fun _ => True) ?hr ?hp (fun _ hk => hk) trivial (Below.refl _ _) (Nat.le_refl _) (by simp) ?_; (case hd => rfl); (case hg => rfl); (case hr => first | (go_simp; done) | (go_simp; rfl)); (case hp => exact (Reps.none _ _)); intro v307 w5 ho6 hb hg_ hnew_; clear hg_ hnew_; (first | rw [← Ny306.out] at ho6 | (simp only [Int.reduceToNat] at ho6; rw [← Ny306.out] at ho6)); have HO308 := sA (Kd.R_lower ho6 (below_size (hbw HB.out))); replace BK305 := sA (blkb BK305.out hb); replace HB := bst HB hb; clear hb ho6; obtain ⟨hcz7_0,hfz7_0⟩ := cQ1 BK305) | ((with_reducible refine gate_callee (f := 10) rfl ?_); refine goesK (some 12) Tryd.func10 #[.agg #[.int .i64 a0_0]] ?_; (with_reducible refine (signalbenchref30_Start.calls a0_0 t309 t310 t311 t312 t313 t314 t315 t316 _ A3.out).mono ?_); rintro e w8 ⟨rfl, hb⟩; refine ⟨_, rfl, ?_⟩; replace HO308 := sA (Kd.R_below (rkw HO308.out) hb); replace BK305 := sA (blkb BK305.out hb); replace HB := bst HB hb; (try clear hb); (try clear hk)) | ((with_reducible refine gate_dst (N := 6) rfl ?_); refine boxK 6 #[.int .i64 0, .int .i64 0, .int .i64 0, .int .i64 0, .int .i64 0, .int .i64 0, .int .i64 0, .string (⟨#[]⟩ : ByteArray)] 27 ?_; intro gb317 hg w9 hbox hb; have BK317 := sA hbox; have GW317 := bsz HB hg; have GE317 := bsz HB hg; have NB305_317 := bnl BK305 hg; have NB317_305 := bng BK305 hg; replace HO308 := sA (Kd.R_below (rkw HO308.out) hb); replace BK305 := sA (blkb BK305.out hb); replace HB := bst HB hb; clear hb hbox hg; have hnb10 := NB317_305.out; have hnc10 := NB305_317.out; obtain ⟨hcz11_0,hcz11_1,hcz11_2,hcz11_3,hcz11_4,hcz11_5,hcz11_6,hcz11_7,hfz11_0,hfz11_1,hfz11_2,hfz11_3,hfz11_4,hfz11_5,hfz11_6,hfz11_7⟩ := cQ8 BK317))
 go_loopg [5, 7] k (fun kq v5 v7 w' => ∃ (x5_1 : List (S32)) (x7_1 : Int) (x318000_1 : Int) (x318001_1 : Int) (x318002_1 : Int) (x318003_1 : Int) (x318004_1 : Int) (x318005_1 : Int) (x318006_1 : Int) (x318007_1 : ByteArray), v7 = .int .i64 x7_1 ∧ Aside0 (signalbenchref30_Decode.l0 kq l1 x5_1 x7_1 a0_0 x318000_1 x318001_1 x318002_1 x318003_1 x318004_1 x318005_1 x318006_1 x318007_1 = some r) ∧ Aside0 (kq ≤ k) ∧ Aside0 (Kd.R k32 32 w' w.heap.size (fun _ => True) v5 x5_1) ∧ Aside0 (w'.heap[gb305]? = some (.cells #[.int .i64 a0_0] 23 (0, 0))) ∧ Aside0 (w'.heap[gb317]? = some (.cells #[.int .i64 x318000_1, .int .i64 x318001_1, .int .i64 x318002_1, .int .i64 x318003_1, .int .i64 x318004_1, .int .i64 x318005_1, .int .i64 x318006_1, .string x318007_1] 27 (0, 0))) ∧ Aside0 (Below w.heap.size w w'))
 case atStart => exact ⟨(y306), (0), (t309), (t310), (t311), (t312), (t313), (t314), (t315), (t316), (by first | rfl | (simp; done) | (simp [*]; done)), H', ⟨Nat.le_refl _⟩, ⟨by (with_reducible repeat (first | apply Kd.R_alloc | apply Kd.R_drewN | apply Kd.R_drew)); exact Kd.R_mono (Kd.R_far (p := ⟨gb317, 7, none⟩) (Kd.R_far (p := ⟨gb317, 6, none⟩) (Kd.R_far (p := ⟨gb317, 5, none⟩) (Kd.R_far (p := ⟨gb317, 4, none⟩) (Kd.R_far (p := ⟨gb317, 3, none⟩) (Kd.R_far (p := ⟨gb317, 2, none⟩) (Kd.R_far (p := ⟨gb317, 1, none⟩) (Kd.R_far (p := ⟨gb317, 0, none⟩) (Kd.R_types HO308.out BK317.out (by decide)) (fun _ hk => hk.2) (.int .i64 t309)) (fun _ hk => hk.2) (.int .i64 t310)) (fun _ hk => hk.2) (.int .i64 t311)) (fun _ hk => hk.2) (.int .i64 t312)) (fun _ hk => hk.2) (.int .i64 t313)) (fun _ hk => hk.2) (.int .i64 t314)) (fun _ hk => hk.2) (.int .i64 t315)) (fun _ hk => hk.2) (.string t316)) (fun _ hk => trivial)⟩, ⟨by (repeat (with_reducible first | refine blk_far ?_ NB305_317.out _ | refine blk_drewN ?_ _ | refine blk_drew ?_ | refine blk_alloc ?_ _)); exact BK305.out⟩, ⟨by (with_reducible repeat (first | refine blk_drewN ?_ _ | refine blk_drew ?_ | refine blk_alloc ?_ _)); refine blk_put8 (.int .i64 0) (.int .i64 0) (.int .i64 0) (.int .i64 0) (.int .i64 0) (.int .i64 0) (.int .i64 0) (.string (⟨#[]⟩ : ByteArray)) ?_; (with_reducible repeat (first | refine blk_drewN ?_ _ | refine blk_drew ?_ | refine blk_alloc ?_ _)); exact BK317.out⟩, ⟨hbw HB.out⟩⟩
 case round =>
  clear H'
  try clear c1
  try clear hcz11_0
  try clear hcz11_1
  try clear hcz11_2
  try clear hcz11_3
  try clear hcz11_4
  try clear hcz11_5
  try clear hcz11_6
  try clear hcz11_7
  try clear hcz7_0
  try clear hfz11_0
  try clear hfz11_1
  try clear hfz11_2
  try clear hfz11_3
  try clear hfz11_4
  try clear hfz11_5
  try clear hfz11_6
  try clear hfz11_7
  try clear hfz7_0
  obtain ⟨x5_1, x7_1, x318000_1, x318001_1, x318002_1, x318003_1, x318004_1, x318005_1, x318006_1, x318007_1, rfl, HA, HK1, HO_5, BK305, BK317, HB⟩ := hrel
  cases gk with
  | zero => exact absurd HA.out (by simp [signalbenchref30_Decode.l0])
  | succ k1 =>
   have H := HA.out; clear HA
   simp only [signalbenchref30_Decode.l0] at H
   by_cases c12 : x7_1 < (l1.length : Int)
   ·rw [if_pos c12] at H
    have c12b0 : decide (x7_1 < (l1.length : Int)) = true := decide_eq_true c12; clear c12
    by_cases c13 : 0 ≤ x7_1
    ·rw [if_pos c13] at H
     have c13b0 : decide (0 ≤ x7_1) = true := decide_eq_true c13; clear c13; replace H := Option.bind_eq_some_iff.mp H; obtain ⟨⟨t319, t320, t321, t322, t323, t324, t325, t326, t327⟩, A140, H⟩ := H; replace H : (if x5_1.length + t327.length < 2199023255552 then (signalbenchref30_Decode.l0 k1 l1 (x5_1 ++ t327) (wrap64 (x7_1 + 1)) a0_0 t319 t320 t321 t322 t323 t324 t325 t326) else (none)) = some r := H; have A14 := sA A140; clear A140
     by_cases c15 : x5_1.length + t327.length < 2199023255552
     ·rw [if_pos c15] at H
      have LMc15 := sA c15; clear c15; obtain ⟨y331, hy331⟩ : ∃ y_ : List (S32), y_ = (x5_1 ++ t327) := ⟨_, rfl⟩
      replace H : (signalbenchref30_Decode.l0 k1 l1 y331 (wrap64 (x7_1 + 1)) a0_0 t319 t320 t321 t322 t323 t324 t325 t326) = some r := by first | (rw [hy331]; with_reducible exact H) | (have H2_ := (Option.bind_some _ _).symm.trans H; rw [hy331]; with_reducible exact H2_) | (have H2_ := (Option.bind_some _ _).symm.trans H; with_reducible exact H2_) | with_reducible exact H | (rw [hy331]; exact H) | exact H
      have Ny331 := sA hy331; clear hy331; have H' := sA H; clear H
      try go_wp2
      replace HO_5 := sA (Kd.R_drew HO_5.out); replace BK305 := sA (blk_drew BK305.out); replace BK317 := sA (blk_drew BK317.out); replace HB := sA (below_drew1 HB.out); have p318 : 0 ≤ (x7_1 : Int) := of_decide_eq_true (by first | (with_reducible assumption) | assumption); have q318 : x7_1 < (l1.length : Int) := of_decide_eq_true (by first | (with_reducible assumption) | assumption); obtain ⟨ad318, e318, hx318_0, hx318_1, hx318_2, hx318_3, hx318_4, hx318_5, hx318_6⟩ := at_T32 HR1.out x7_1 p318 q318; have hw318_6 := hx318_6; have hw318_5 := hx318_5; have hw318_4 := hx318_4; have hw318_3 := hx318_3; have hw318_2 := hx318_2; have hw318_1 := hx318_1; have hw318_0 := hx318_0
      cases e318
      replace hx318_0 := hbc HB hx318_0; replace hx318_1 := hbc HB hx318_1; replace hx318_2 := hbc HB hx318_2; replace hx318_3 := hbc HB hx318_3; replace hx318_4 := hbc HB hx318_4; replace hx318_5 := hbc HB hx318_5; replace hx318_6 := hbc HB hx318_6; replace p318 := eq_true p318; replace q318 := eq_true q318; refine start_ (n := 13) (S := fun w' => w'.cell? ⟨gb305, 0, none⟩ = some (.int .i64 a0_0) ∧ w'.cell? ⟨gb317, 0, none⟩ = some (.int .i64 x318000_1) ∧ w'.cell? ⟨gb317, 1, none⟩ = some (.int .i64 x318001_1) ∧ w'.cell? ⟨gb317, 2, none⟩ = some (.int .i64 x318002_1) ∧ w'.cell? ⟨gb317, 3, none⟩ = some (.int .i64 x318003_1) ∧ w'.cell? ⟨gb317, 4, none⟩ = some (.int .i64 x318004_1) ∧ w'.cell? ⟨gb317, 5, none⟩ = some (.int .i64 x318005_1) ∧ w'.cell? ⟨gb317, 6, none⟩ = some (.int .i64 x318006_1) ∧ w'.cell? ⟨gb317, 7, none⟩ = some (.string x318007_1) ∧ w'.cell? (ad318.add ((x7_1).toNat * 7)) = some (.int .i64 ((rd_T32 l1 x7_1).f0)) ∧ w'.cell? ⟨(ad318.add ((x7_1).toNat * 7)).block, (ad318.add ((x7_1).toNat * 7)).off + 1, none⟩ = some (.int .i64 ((rd_T32 l1 x7_1).f1)) ∧ w'.cell? ⟨(ad318.add ((x7_1).toNat * 7)).block, (ad318.add ((x7_1).toNat * 7)).off + 2, none⟩ = some (.int .i64 ((rd_T32 l1 x7_1).f2)) ∧ w'.cell? ⟨(ad318.add ((x7_1).toNat * 7)).block, (ad318.add ((x7_1).toNat * 7)).off + 3, none⟩ = some (.int .i64 ((rd_T32 l1 x7_1).f3)) ∧ w'.cell? ⟨(ad318.add ((x7_1).toNat * 7)).block, (ad318.add ((x7_1).toNat * 7)).off + 4, none⟩ = some (.int .i64 ((rd_T32 l1 x7_1).f4)) ∧ w'.cell? ⟨(ad318.add ((x7_1).toNat * 7)).block, (ad318.add ((x7_1).toNat * 7)).off + 5, none⟩ = some (.string ((rd_T32 l1 x7_1).f5)) ∧ w'.cell? ⟨(ad318.add ((x7_1).toNat * 7)).block, (ad318.add ((x7_1).toNat * 7)).off + 6, none⟩ = some (.int .i64 ((rd_T32 l1 x7_1).f6))) (ds := []) #[N_,N_,N_,N_,N_,N_,N_,N_,N_,N_,N_,N_,N_] (by kernel_rfl) rfl rfl ⟨ck BK305 0, ck BK317 0, ck BK317 1, ck BK317 2, ck BK317 3, ck BK317 4, ck BK317 5, ck BK317 6, ck BK317 7, hbc HB hw318_0, hbc HB hw318_1, hbc HB hw318_2, hbc HB hw318_3, hbc HB hw318_4, hbc HB hw318_5, hbc HB hw318_6⟩ (fun hHeld => ?_); refine with_tabW signalbenchref30_Decode.tab6 signalbenchref30_Decode.bits6 (fun HT_ HW_ => ?_)
      generalize wr.drew = w16 at HO_5 BK305 BK317 HB hx318_0 hx318_1 hx318_2 hx318_3 hx318_4 hx318_5 hx318_6 hHeld ⊢
      refine pstep 2 (some 22) #[N_,N_,Y_,N_,N_,N_,N_,N_,N_,N_,N_,N_,N_] HT_.out ?_; refine pstep 3 (some 23) #[N_,N_,Y_,Y_,N_,N_,N_,N_,N_,N_,N_,N_,N_] HT_.out ?_; refine pstep 4 (some 24) #[N_,N_,Y_,Y_,Y_,N_,N_,N_,N_,N_,N_,N_,N_] HT_.out ?_; refine take_ (i := 0) (N := some 20) (v := ?_) (a' := ?_) #[Y_,N_,Y_,Y_,Y_,N_,N_,N_,N_,N_,N_,N_,N_] rfl rfl (take_ofW HT_.out HW_.out (by kernel_rfl)) (fun _ _ _ h => h) (Or.inl ⟨by rfl, ?_⟩) hHeld ?_ ?_; rotate_left
      ·rintro w' ⟨s0, s1, s2, s3, s4, s5, s6, s7, s8, s9, s10, s11, s12, s13, s14, s15⟩
       go_simp
       with_reducible rfl
      rotate_left
      ·simp only [Act.put, nrm]
       rfl
      refine take_ (i := 1) (N := some 21) (v := ?_) (a' := ?_) #[Y_,Y_,Y_,Y_,Y_,N_,N_,N_,N_,N_,N_,N_,N_] rfl rfl (take_ofW HT_.out HW_.out (by kernel_rfl)) (fun _ _ _ h => h) (Or.inl ⟨by rfl, ?_⟩) hHeld ?_ ?_; rotate_left
      ·rintro w' ⟨s0, s1, s2, s3, s4, s5, s6, s7, s8, s9, s10, s11, s12, s13, s14, s15⟩
       go_simp
       with_reducible rfl
      rotate_left
      ·simp only [Act.put, nrm]
       rfl
      refine take_ (i := 5) (N := some 25) (v := ?_) (a' := ?_) #[Y_,Y_,Y_,Y_,Y_,Y_,N_,N_,N_,N_,N_,N_,N_] rfl rfl (take_ofW HT_.out HW_.out (by kernel_rfl)) (fun _ _ _ h => h) (Or.inl ⟨by rfl, ?_⟩) hHeld ?_ ?_; rotate_left
      ·rintro w' ⟨s0, s1, s2, s3, s4, s5, s6, s7, s8, s9, s10, s11, s12, s13, s14, s15⟩
       go_simp
       with_reducible rfl
      rotate_left
      ·simp only [Act.put, nrm]
       rfl
      refine join_ (σ := Value × Nat) 2 #[Y_,Y_,Y_,Y_,Y_,Y_,Y_,Y_,Y_,Y_,Y_,N_,N_] (fun s_ => [(26, .tuple #[.agg #[.int .i64 t319, .int .i64 t320, .int .i64 t321, .int .i64 t322, .int .i64 t323, .int .i64 t324, .int .i64 t325, .string t326], s_.1]), (8, .pointer (some ⟨s_.2, 0, none⟩)), (19, .tuple #[.agg #[.int .i64 t319, .int .i64 t320, .int .i64 t321, .int .i64 t322, .int .i64 t323, .int .i64 t324, .int .i64 t325, .string t326], s_.1]), (27, .agg #[.int .i64 t319, .int .i64 t320, .int .i64 t321, .int .i64 t322, .int .i64 t323, .int .i64 t324, .int .i64 t325, .string t326]), (28, s_.1)]) (fun s_ w' => (w'.cell? ⟨gb305, 0, none⟩ = some (.int .i64 a0_0) ∧ w'.cell? ⟨gb317, 0, none⟩ = some (.int .i64 x318000_1) ∧ w'.cell? ⟨gb317, 1, none⟩ = some (.int .i64 x318001_1) ∧ w'.cell? ⟨gb317, 2, none⟩ = some (.int .i64 x318002_1) ∧ w'.cell? ⟨gb317, 3, none⟩ = some (.int .i64 x318003_1) ∧ w'.cell? ⟨gb317, 4, none⟩ = some (.int .i64 x318004_1) ∧ w'.cell? ⟨gb317, 5, none⟩ = some (.int .i64 x318005_1) ∧ w'.cell? ⟨gb317, 6, none⟩ = some (.int .i64 x318006_1) ∧ w'.cell? ⟨gb317, 7, none⟩ = some (.string x318007_1) ∧ w'.cell? (ad318.add ((x7_1).toNat * 7)) = some (.int .i64 ((rd_T32 l1 x7_1).f0)) ∧ w'.cell? ⟨(ad318.add ((x7_1).toNat * 7)).block, (ad318.add ((x7_1).toNat * 7)).off + 1, none⟩ = some (.int .i64 ((rd_T32 l1 x7_1).f1)) ∧ w'.cell? ⟨(ad318.add ((x7_1).toNat * 7)).block, (ad318.add ((x7_1).toNat * 7)).off + 2, none⟩ = some (.int .i64 ((rd_T32 l1 x7_1).f2)) ∧ w'.cell? ⟨(ad318.add ((x7_1).toNat * 7)).block, (ad318.add ((x7_1).toNat * 7)).off + 3, none⟩ = some (.int .i64 ((rd_T32 l1 x7_1).f3)) ∧ w'.cell? ⟨(ad318.add ((x7_1).toNat * 7)).block, (ad318.add ((x7_1).toNat * 7)).off + 4, none⟩ = some (.int .i64 ((rd_T32 l1 x7_1).f4)) ∧ w'.cell? ⟨(ad318.add ((x7_1).toNat * 7)).block, (ad318.add ((x7_1).toNat * 7)).off + 5, none⟩ = some (.string ((rd_T32 l1 x7_1).f5)) ∧ w'.cell? ⟨(ad318.add ((x7_1).toNat * 7)).block, (ad318.add ((x7_1).toNat * 7)).off + 6, none⟩ = some (.int .i64 ((rd_T32 l1 x7_1).f6))) ∧ (Kd.R k32 32 w' w.heap.size (fun k_ => some k_ ≠ (u5 : Value).ownBlock) s_.1 t327) ∧ (Kd.R k32 32 w' w.heap.size (fun k_ => some k_ ≠ (s_.1 : Value).ownBlock) u5 x5_1) ∧ (w'.heap[gb305]? = some (.cells #[.int .i64 a0_0] 23 (0, 0))) ∧ (w'.heap[gb317]? = some (.cells #[.int .i64 x318000_1, .int .i64 x318001_1, .int .i64 x318002_1, .int .i64 x318003_1, .int .i64 x318004_1, .int .i64 x318005_1, .int .i64 x318006_1, .string x318007_1] 27 (0, 0))) ∧ (w'.heap[s_.2]? = some (.cells #[.int .i64 0, .int .i64 0, .int .i64 0, .int .i64 0, .int .i64 0, .int .i64 0, .int .i64 0, .string (⟨#[]⟩ : ByteArray)] 27 (0, 0))) ∧ (w.heap.size ≤ s_.2) ∧ (w.heap.size ≤ s_.2) ∧ (gb305 ≠ s_.2) ∧ (s_.2 ≠ gb305) ∧ (gb317 ≠ s_.2) ∧ (s_.2 ≠ gb317) ∧ (Below w.heap.size w w')) ?_ ?_; rotate_left
      ·intro hCont
       refine two_ (i := 6) (j := 10) (Ni := some 26) (Nj := some 8) #[Y_,Y_,Y_,Y_,Y_,Y_,Y_,N_,N_,N_,N_,N_,N_] #[Y_,Y_,Y_,Y_,Y_,Y_,N_,N_,N_,N_,Y_,N_,N_] rfl rfl rfl rfl (two_of HT_.out (by kernel_rfl)) (by decide) (by decide) (fun K hK => ?_) (fun K hK => ?_)
       ·skip
        refine goesM Tryd.func12 #[.agg #[.int .i64 a0_0], .agg #[.int .i64 x318000_1, .int .i64 x318001_1, .int .i64 x318002_1, .int .i64 x318003_1, .int .i64 x318004_1, .int .i64 x318005_1, .int .i64 x318006_1, .string x318007_1], .agg #[.int .i64 ((rd_T32 l1 x7_1).f0), .int .i64 ((rd_T32 l1 x7_1).f1), .int .i64 ((rd_T32 l1 x7_1).f2), .int .i64 ((rd_T32 l1 x7_1).f3), .int .i64 ((rd_T32 l1 x7_1).f4), .string ((rd_T32 l1 x7_1).f5), .int .i64 ((rd_T32 l1 x7_1).f6)]] ?_; (with_reducible refine (signalbenchref30_Step.calls k1 a0_0 x318000_1 x318001_1 x318002_1 x318003_1 x318004_1 x318005_1 x318006_1 x318007_1 ((rd_T32 l1 x7_1).f0) ((rd_T32 l1 x7_1).f1) ((rd_T32 l1 x7_1).f2) ((rd_T32 l1 x7_1).f3) ((rd_T32 l1 x7_1).f4) ((rd_T32 l1 x7_1).f5) ((rd_T32 l1 x7_1).f6) t319 t320 t321 t322 t323 t324 t325 t326 t327 _ A14.out).mono ?_); rintro e w17 ⟨v328, rfl, ho0, hb⟩; refine ⟨_, rfl, ?_⟩; have HO329 := sA (Kd.R_lower (Kd.R_new' ho0 (Kd.R_lt (rkw HO_5.out))) (below_size (hbw HB.out))); replace HO_5 := sA (Kd.R_elder' (rkw HO_5.out) (Kd.R_base ho0) hb); replace BK305 := bkB BK305 hb; replace BK317 := bkB BK317 hb; replace HB := bst HB hb; (try clear hb); (try clear ho0); refine hK.out _ _ ⟨ck BK305 0, ck BK317 0, ck BK317 1, ck BK317 2, ck BK317 3, ck BK317 4, ck BK317 5, ck BK317 6, ck BK317 7, hbc HB hw318_0, hbc HB hw318_1, hbc HB hw318_2, hbc HB hw318_3, hbc HB hw318_4, hbc HB hw318_5, hbc HB hw318_6⟩ (fun hHeld => ?_); clear hK K; refine norm_ (a' := ?_) ?_ ?_; rotate_left
        ·show Act.put _ (some 26) _ = _
         simp only [Act.put, nrm]
         rfl
        refine pstep 7 (some 19) #[Y_,Y_,Y_,Y_,Y_,Y_,Y_,Y_,N_,N_,N_,N_,N_] HT_.out ?_; refine pstep 8 (some 27) #[Y_,Y_,Y_,Y_,Y_,Y_,Y_,Y_,Y_,N_,N_,N_,N_] HT_.out ?_; refine pstep 9 (some 28) #[Y_,Y_,Y_,Y_,Y_,Y_,Y_,Y_,Y_,Y_,N_,N_,N_] HT_.out ?_; refine one_ (i := 10) (N := some 8) #[Y_,Y_,Y_,Y_,Y_,Y_,Y_,Y_,Y_,Y_,Y_,N_,N_] rfl rfl (one_of HT_.out (by kernel_rfl)) (by decide) (fun K hK => ?_); refine box_step ?hg (N := 8) ?hd (cs := #[.int .i64 0, .int .i64 0, .int .i64 0, .int .i64 0, .int .i64 0, .int .i64 0, .int .i64 0, .string (⟨#[]⟩ : ByteArray)]) (t := 27) ?hr ?_; (case hd => rfl); (case hg => rfl); (case hr => first | (go_simp; done) | (go_simp; rfl)); intro gb330 hg w18 hbox hb; have BK330 := sA hbox; have GW330 := bsz HB hg; have GE330 := bsz HB hg; have NB305_330 := bnl BK305 hg; have NB330_305 := bng BK305 hg; have NB317_330 := bnl BK317 hg; have NB330_317 := bng BK317 hg; replace HO_5 := sA (Kd.R_below (rkw HO_5.out) hb); replace HO329 := sA (Kd.R_below (rkw HO329.out) hb); replace BK305 := bkB BK305 hb; replace BK317 := bkB BK317 hb; replace HB := bst HB hb; clear hb hbox hg; refine hK.out _ _ ⟨ck BK305 0, ck BK317 0, ck BK317 1, ck BK317 2, ck BK317 3, ck BK317 4, ck BK317 5, ck BK317 6, ck BK317 7, hbc HB hw318_0, hbc HB hw318_1, hbc HB hw318_2, hbc HB hw318_3, hbc HB hw318_4, hbc HB hw318_5, hbc HB hw318_6⟩ (fun hHeld => ?_); clear hK K; refine norm_ (a' := ?_) ?_ ?_; rotate_left
        ·show Act.put _ (some 8) _ = _
         simp only [Act.put, nrm]
         rfl
        exact norm_ pb (hCont (v328, gb330) _ ⟨hHeld, (by (with_reducible repeat (first | apply Kd.R_alloc | apply Kd.R_drewN | apply Kd.R_drew)); exact Kd.R_mono HO329.out (fun _ hk => hk.2)), (by (with_reducible repeat (first | apply Kd.R_alloc | apply Kd.R_drewN | apply Kd.R_drew)); exact Kd.R_mono HO_5.out (fun _ hk => hk.2)), (bkw BK305.out), (bkw BK317.out), (bkw BK330.out), GW330.out, GE330.out, NB305_330.out, NB330_305.out, NB317_330.out, NB330_317.out, (hbw HB.out)⟩)
       ·skip
        refine box_step ?hg (N := 8) ?hd (cs := #[.int .i64 0, .int .i64 0, .int .i64 0, .int .i64 0, .int .i64 0, .int .i64 0, .int .i64 0, .string (⟨#[]⟩ : ByteArray)]) (t := 27) ?hr ?_; (case hd => rfl); (case hg => rfl); (case hr => first | (go_simp; done) | (go_simp; rfl)); intro gb330 hg w17 hbox hb; have BK330 := sA hbox; have GW330 := bsz HB hg; have GE330 := bsz HB hg; have NB305_330 := bnl BK305 hg; have NB330_305 := bng BK305 hg; have NB317_330 := bnl BK317 hg; have NB330_317 := bng BK317 hg; replace HO_5 := sA (Kd.R_below (rkw HO_5.out) hb); replace BK305 := bkB BK305 hb; replace BK317 := bkB BK317 hb; replace HB := bst HB hb; clear hb hbox hg; refine hK.out _ _ ⟨ck BK305 0, ck BK317 0, ck BK317 1, ck BK317 2, ck BK317 3, ck BK317 4, ck BK317 5, ck BK317 6, ck BK317 7, hbc HB hw318_0, hbc HB hw318_1, hbc HB hw318_2, hbc HB hw318_3, hbc HB hw318_4, hbc HB hw318_5, hbc HB hw318_6⟩ (fun hHeld => ?_); clear hK K; refine norm_ (a' := ?_) ?_ ?_; rotate_left
        ·show Act.put _ (some 8) _ = _
         simp only [Act.put, nrm]
         rfl
        refine one_ (i := 6) (N := some 26) #[Y_,Y_,Y_,Y_,Y_,Y_,Y_,N_,N_,N_,Y_,N_,N_] rfl rfl (one_of HT_.out (by kernel_rfl)) (by decide) (fun K hK => ?_); refine goesM Tryd.func12 #[.agg #[.int .i64 a0_0], .agg #[.int .i64 x318000_1, .int .i64 x318001_1, .int .i64 x318002_1, .int .i64 x318003_1, .int .i64 x318004_1, .int .i64 x318005_1, .int .i64 x318006_1, .string x318007_1], .agg #[.int .i64 ((rd_T32 l1 x7_1).f0), .int .i64 ((rd_T32 l1 x7_1).f1), .int .i64 ((rd_T32 l1 x7_1).f2), .int .i64 ((rd_T32 l1 x7_1).f3), .int .i64 ((rd_T32 l1 x7_1).f4), .string ((rd_T32 l1 x7_1).f5), .int .i64 ((rd_T32 l1 x7_1).f6)]] ?_; (with_reducible refine (signalbenchref30_Step.calls k1 a0_0 x318000_1 x318001_1 x318002_1 x318003_1 x318004_1 x318005_1 x318006_1 x318007_1 ((rd_T32 l1 x7_1).f0) ((rd_T32 l1 x7_1).f1) ((rd_T32 l1 x7_1).f2) ((rd_T32 l1 x7_1).f3) ((rd_T32 l1 x7_1).f4) ((rd_T32 l1 x7_1).f5) ((rd_T32 l1 x7_1).f6) t319 t320 t321 t322 t323 t324 t325 t326 t327 _ A14.out).mono ?_); rintro e w18 ⟨v328, rfl, ho0, hb⟩; refine ⟨_, rfl, ?_⟩; have HO329 := sA (Kd.R_lower (Kd.R_new' ho0 (Kd.R_lt (rkw HO_5.out))) (below_size (hbw HB.out))); replace HO_5 := sA (Kd.R_elder' (rkw HO_5.out) (Kd.R_base ho0) hb); replace BK305 := bkB BK305 hb; replace BK317 := bkB BK317 hb; replace BK330 := bkB BK330 hb; replace HB := bst HB hb; (try clear hb); (try clear ho0); refine hK.out _ _ ⟨ck BK305 0, ck BK317 0, ck BK317 1, ck BK317 2, ck BK317 3, ck BK317 4, ck BK317 5, ck BK317 6, ck BK317 7, hbc HB hw318_0, hbc HB hw318_1, hbc HB hw318_2, hbc HB hw318_3, hbc HB hw318_4, hbc HB hw318_5, hbc HB hw318_6⟩ (fun hHeld => ?_); clear hK K; refine norm_ (a' := ?_) ?_ ?_; rotate_left
        ·show Act.put _ (some 26) _ = _
         simp only [Act.put, nrm]
         rfl
        refine pstep 7 (some 19) #[Y_,Y_,Y_,Y_,Y_,Y_,Y_,Y_,N_,N_,Y_,N_,N_] HT_.out ?_; refine pstep 8 (some 27) #[Y_,Y_,Y_,Y_,Y_,Y_,Y_,Y_,Y_,N_,Y_,N_,N_] HT_.out ?_; refine pstep 9 (some 28) #[Y_,Y_,Y_,Y_,Y_,Y_,Y_,Y_,Y_,Y_,Y_,N_,N_] HT_.out ?_
        exact norm_ pb (hCont (v328, gb330) _ ⟨hHeld, (by (with_reducible repeat (first | apply Kd.R_alloc | apply Kd.R_drewN | apply Kd.R_drew)); exact Kd.R_mono HO329.out (fun _ hk => hk.2)), (by (with_reducible repeat (first | apply Kd.R_alloc | apply Kd.R_drewN | apply Kd.R_drew)); exact Kd.R_mono HO_5.out (fun _ hk => hk.2)), (bkw BK305.out), (bkw BK317.out), (bkw BK330.out), GW330.out, GE330.out, NB305_330.out, NB330_305.out, NB317_330.out, NB330_317.out, (hbw HB.out)⟩)
      rintro ⟨v328, gb330⟩ w19 ⟨hS_, h0_, h1_, h2_, h3_, h4_, h5_, h6_, h7_, h8_, h9_, h10_, h11_⟩; have n0_ : Aside0 (Kd.R k32 32 w19 w.heap.size (fun k_ => some k_ ≠ (u5 : Value).ownBlock) v328 t327) := ⟨h0_⟩; have n1_ : Aside0 (Kd.R k32 32 w19 w.heap.size (fun k_ => some k_ ≠ (v328 : Value).ownBlock) u5 x5_1) := ⟨h1_⟩; have n2_ : Aside0 (w19.heap[gb305]? = some (.cells #[.int .i64 a0_0] 23 (0, 0))) := ⟨h2_⟩; have n3_ : Aside0 (w19.heap[gb317]? = some (.cells #[.int .i64 x318000_1, .int .i64 x318001_1, .int .i64 x318002_1, .int .i64 x318003_1, .int .i64 x318004_1, .int .i64 x318005_1, .int .i64 x318006_1, .string x318007_1] 27 (0, 0))) := ⟨h3_⟩; have n4_ : Aside0 (w19.heap[gb330]? = some (.cells #[.int .i64 0, .int .i64 0, .int .i64 0, .int .i64 0, .int .i64 0, .int .i64 0, .int .i64 0, .string (⟨#[]⟩ : ByteArray)] 27 (0, 0))) := ⟨h4_⟩; have n5_ : Aside0 (w.heap.size ≤ gb330) := ⟨h5_⟩; have n6_ : Aside0 (w.heap.size ≤ gb330) := ⟨h6_⟩; have n7_ : Aside0 (gb305 ≠ gb330) := ⟨h7_⟩; have n8_ : Aside0 (gb330 ≠ gb305) := ⟨h8_⟩; have n9_ : Aside0 (gb317 ≠ gb330) := ⟨h9_⟩; have n10_ : Aside0 (gb330 ≠ gb317) := ⟨h10_⟩; have n11_ : Aside0 (Below w.heap.size w w19) := ⟨h11_⟩; clear HO_5; clear BK305; clear BK317; clear HB; clear h0_ h1_ h2_ h3_ h4_ h5_ h6_ h7_ h8_ h9_ h10_ h11_; have HO329 := n0_; have HO_5 := n1_; have BK305 := n2_; have BK317 := n3_; have BK330 := n4_; have GW330 := n5_; have GE330 := n6_; have NB305_330 := n7_; have NB330_305 := n8_; have NB317_330 := n9_; have NB330_317 := n10_; have HB := n11_; clear n0_ n1_ n2_ n3_ n4_ n5_ n6_ n7_ n8_ n9_ n10_ n11_; have hHeld : w19.cell? ⟨gb305, 0, none⟩ = some (.int .i64 a0_0) ∧ w19.cell? ⟨gb317, 0, none⟩ = some (.int .i64 x318000_1) ∧ w19.cell? ⟨gb317, 1, none⟩ = some (.int .i64 x318001_1) ∧ w19.cell? ⟨gb317, 2, none⟩ = some (.int .i64 x318002_1) ∧ w19.cell? ⟨gb317, 3, none⟩ = some (.int .i64 x318003_1) ∧ w19.cell? ⟨gb317, 4, none⟩ = some (.int .i64 x318004_1) ∧ w19.cell? ⟨gb317, 5, none⟩ = some (.int .i64 x318005_1) ∧ w19.cell? ⟨gb317, 6, none⟩ = some (.int .i64 x318006_1) ∧ w19.cell? ⟨gb317, 7, none⟩ = some (.string x318007_1) ∧ w19.cell? (ad318.add ((x7_1).toNat * 7)) = some (.int .i64 ((rd_T32 l1 x7_1).f0)) ∧ w19.cell? ⟨(ad318.add ((x7_1).toNat * 7)).block, (ad318.add ((x7_1).toNat * 7)).off + 1, none⟩ = some (.int .i64 ((rd_T32 l1 x7_1).f1)) ∧ w19.cell? ⟨(ad318.add ((x7_1).toNat * 7)).block, (ad318.add ((x7_1).toNat * 7)).off + 2, none⟩ = some (.int .i64 ((rd_T32 l1 x7_1).f2)) ∧ w19.cell? ⟨(ad318.add ((x7_1).toNat * 7)).block, (ad318.add ((x7_1).toNat * 7)).off + 3, none⟩ = some (.int .i64 ((rd_T32 l1 x7_1).f3)) ∧ w19.cell? ⟨(ad318.add ((x7_1).toNat * 7)).block, (ad318.add ((x7_1).toNat * 7)).off + 4, none⟩ = some (.int .i64 ((rd_T32 l1 x7_1).f4)) ∧ w19.cell? ⟨(ad318.add ((x7_1).toNat * 7)).block, (ad318.add ((x7_1).toNat * 7)).off + 5, none⟩ = some (.string ((rd_T32 l1 x7_1).f5)) ∧ w19.cell? ⟨(ad318.add ((x7_1).toNat * 7)).block, (ad318.add ((x7_1).toNat * 7)).off + 6, none⟩ = some (.int .i64 ((rd_T32 l1 x7_1).f6)) := hS_
      refine norm_ (a' := ?_) ?_ ?_; rotate_left
      ·simp only [putAll, Act.put, List.setIfInBounds_toArray, List.set_cons_zero, List.set_cons_succ]
       rfl
      refine one_ (i := 11) (N := none) #[Y_,Y_,Y_,Y_,Y_,Y_,Y_,Y_,Y_,Y_,Y_,Y_,N_] rfl rfl (one_of HT_.out (by kernel_rfl)) (by decide) (fun K hK => ?_); have hs20 : w19.cell? ⟨gb330, 0, none⟩ = some (.int .i64 0) := ck BK330 0; have hfs20 := blk_frozen BK330.out 0; have := NB305_330.out; have := NB317_330.out; have := NB330_305.out; have := NB330_317.out; have hs21 : w19.cell? ⟨gb330, 1, none⟩ = some (.int .i64 0) := ck BK330 1; have hfs21 := blk_frozen BK330.out 1; have := NB305_330.out; have := NB317_330.out; have := NB330_305.out; have := NB330_317.out; have hs22 : w19.cell? ⟨gb330, 2, none⟩ = some (.int .i64 0) := ck BK330 2; have hfs22 := blk_frozen BK330.out 2; have := NB305_330.out; have := NB317_330.out; have := NB330_305.out; have := NB330_317.out; have hs23 : w19.cell? ⟨gb330, 3, none⟩ = some (.int .i64 0) := ck BK330 3; have hfs23 := blk_frozen BK330.out 3; have := NB305_330.out; have := NB317_330.out; have := NB330_305.out; have := NB330_317.out; have hs24 : w19.cell? ⟨gb330, 4, none⟩ = some (.int .i64 0) := ck BK330 4; have hfs24 := blk_frozen BK330.out 4; have := NB305_330.out; have := NB317_330.out; have := NB330_305.out; have := NB330_317.out; have hs25 : w19.cell? ⟨gb330, 5, none⟩ = some (.int .i64 0) := ck BK330 5; have hfs25 := blk_frozen BK330.out 5; have := NB305_330.out; have := NB317_330.out; have := NB330_305.out; have := NB330_317.out; have hs26 : w19.cell? ⟨gb330, 6, none⟩ = some (.int .i64 0) := ck BK330 6; have hfs26 := blk_frozen BK330.out 6; have := NB305_330.out; have := NB317_330.out; have := NB330_305.out; have := NB330_317.out; have hs27 : w19.cell? ⟨gb330, 7, none⟩ = some (.string (⟨#[]⟩ : ByteArray)) := ck BK330 7; have hfs27 := blk_frozen BK330.out 7; have := NB305_330.out; have := NB317_330.out; have := NB330_305.out; have := NB330_317.out; refine skip_ (w1 := ?_) (by rfl) rfl ?_ ?_; rotate_left
      ·go_simp
       rfl
      refine hK.out _ _ ⟨((far8 (g := gb330) NB305_330.out).trans (hHeld.1)), ((far8 (g := gb330) NB317_330.out).trans (hHeld.2.1)), ((far8 (g := gb330) NB317_330.out).trans (hHeld.2.2.1)), ((far8 (g := gb330) NB317_330.out).trans (hHeld.2.2.2.1)), ((far8 (g := gb330) NB317_330.out).trans (hHeld.2.2.2.2.1)), ((far8 (g := gb330) NB317_330.out).trans (hHeld.2.2.2.2.2.1)), ((far8 (g := gb330) NB317_330.out).trans (hHeld.2.2.2.2.2.2.1)), ((far8 (g := gb330) NB317_330.out).trans (hHeld.2.2.2.2.2.2.2.1)), ((far8 (g := gb330) NB317_330.out).trans (hHeld.2.2.2.2.2.2.2.2.1)), ((far8 (g := gb330) (by have e_ := Nat.ne_of_lt (Nat.lt_of_lt_of_le (by have := World.block_lt_of_cell? _ _ hw318_0; first | rwa [add_block] at this | exact this) GW330.out); first | exact e_ | (rw [add_block]; exact e_) | (show (Addr.add _ _).block ≠ _; rw [add_block]; exact e_) | (dsimp only; exact e_))).trans (hHeld.2.2.2.2.2.2.2.2.2.1)), ((far8 (g := gb330) (by have e_ := Nat.ne_of_lt (Nat.lt_of_lt_of_le (by have := World.block_lt_of_cell? _ _ hw318_1; first | rwa [add_block] at this | exact this) GW330.out); first | exact e_ | (rw [add_block]; exact e_) | (show (Addr.add _ _).block ≠ _; rw [add_block]; exact e_) | (dsimp only; exact e_))).trans (hHeld.2.2.2.2.2.2.2.2.2.2.1)), ((far8 (g := gb330) (by have e_ := Nat.ne_of_lt (Nat.lt_of_lt_of_le (by have := World.block_lt_of_cell? _ _ hw318_2; first | rwa [add_block] at this | exact this) GW330.out); first | exact e_ | (rw [add_block]; exact e_) | (show (Addr.add _ _).block ≠ _; rw [add_block]; exact e_) | (dsimp only; exact e_))).trans (hHeld.2.2.2.2.2.2.2.2.2.2.2.1)), ((far8 (g := gb330) (by have e_ := Nat.ne_of_lt (Nat.lt_of_lt_of_le (by have := World.block_lt_of_cell? _ _ hw318_3; first | rwa [add_block] at this | exact this) GW330.out); first | exact e_ | (rw [add_block]; exact e_) | (show (Addr.add _ _).block ≠ _; rw [add_block]; exact e_) | (dsimp only; exact e_))).trans (hHeld.2.2.2.2.2.2.2.2.2.2.2.2.1)), ((far8 (g := gb330) (by have e_ := Nat.ne_of_lt (Nat.lt_of_lt_of_le (by have := World.block_lt_of_cell? _ _ hw318_4; first | rwa [add_block] at this | exact this) GW330.out); first | exact e_ | (rw [add_block]; exact e_) | (show (Addr.add _ _).block ≠ _; rw [add_block]; exact e_) | (dsimp only; exact e_))).trans (hHeld.2.2.2.2.2.2.2.2.2.2.2.2.2.1)), ((far8 (g := gb330) (by have e_ := Nat.ne_of_lt (Nat.lt_of_lt_of_le (by have := World.block_lt_of_cell? _ _ hw318_5; first | rwa [add_block] at this | exact this) GW330.out); first | exact e_ | (rw [add_block]; exact e_) | (show (Addr.add _ _).block ≠ _; rw [add_block]; exact e_) | (dsimp only; exact e_))).trans (hHeld.2.2.2.2.2.2.2.2.2.2.2.2.2.2.1)), ((far8 (g := gb330) (by have e_ := Nat.ne_of_lt (Nat.lt_of_lt_of_le (by have := World.block_lt_of_cell? _ _ hw318_6; first | rwa [add_block] at this | exact this) GW330.out); first | exact e_ | (rw [add_block]; exact e_) | (show (Addr.add _ _).block ≠ _; rw [add_block]; exact e_) | (dsimp only; exact e_))).trans (hHeld.2.2.2.2.2.2.2.2.2.2.2.2.2.2.2))⟩ (fun hHeld => ?_)
      clear hK K; refine pstep 12 (some 9) #[Y_,Y_,Y_,Y_,Y_,Y_,Y_,Y_,Y_,Y_,Y_,Y_,Y_] HT_.out ?_; refine done_ (done_of HT_.out (by kernel_rfl)) ?_; obtain ⟨Ao29, co29, eo29⟩ := Kd.R_slice HO329.out; subst eo29
      try go_wp2_with (first | ((with_reducible refine gate_builtin (b := .append) (xs := #[.tmp 29, .tmp 30]) rfl ?_); at_builtin; refine Kd.R_append_rows k32 (w0 := w) w.heap.size rfl (.tmp 29) (.tmp 30) 24 32 (.agg #[(.int .i64 0), (.int .i64 0), (.int .i64 0), (.int .i64 0), (.int .i64 0), (.string ⟨#[]⟩), (.int .i64 0)]) 64 rfl Tryd.underlying24 info32 rfl (by decide) (by omega) u5 x5_1 t327 _ _ _ (fun k_ => some k_ ≠ (.slice Ao29 t327.length co29 : Value).ownBlock) (fun _ => False) rfl rfl ?aO ?aR (fun _ _ h => h) (fun _ h => h.elim) ?aF ?aB ?aS ?aL ?_; (case aR => refine (Kd.R_reads' (e := 32) (base := w.heap.size) (ok := fun k_ => some k_ ≠ (u5 : Value).ownBlock) (n := t327.length) (c := co29) ?_).2.2; exact (by (with_reducible repeat (first | apply Kd.R_alloc | apply Kd.R_drewN | apply Kd.R_drew)); exact (Kd.R_mono (Kd.R_far (p := ⟨gb330, 7, none⟩) (Kd.R_far (p := ⟨gb330, 6, none⟩) (Kd.R_far (p := ⟨gb330, 5, none⟩) (Kd.R_far (p := ⟨gb330, 4, none⟩) (Kd.R_far (p := ⟨gb330, 3, none⟩) (Kd.R_far (p := ⟨gb330, 2, none⟩) (Kd.R_far (p := ⟨gb330, 1, none⟩) (Kd.R_far (p := ⟨gb330, 0, none⟩) (Kd.R_types HO329.out BK330.out (by decide)) (fun _ hk => hk.2) (.int .i64 t319)) (fun _ hk => hk.2) (.int .i64 t320)) (fun _ hk => hk.2) (.int .i64 t321)) (fun _ hk => hk.2) (.int .i64 t322)) (fun _ hk => hk.2) (.int .i64 t323)) (fun _ hk => hk.2) (.int .i64 t324)) (fun _ hk => hk.2) (.int .i64 t325)) (fun _ hk => hk.2) (.string t326)) (fun _ h_ => h_.1)))); (case aB => exact (hbw HB.out)); (case aF => exact (fun k_ hk => Kd.fresh' (Kd.R_lt (by (with_reducible repeat (first | apply Kd.R_alloc | apply Kd.R_drewN | apply Kd.R_drew)); exact (Kd.R_mono (Kd.R_far (p := ⟨gb330, 7, none⟩) (Kd.R_far (p := ⟨gb330, 6, none⟩) (Kd.R_far (p := ⟨gb330, 5, none⟩) (Kd.R_far (p := ⟨gb330, 4, none⟩) (Kd.R_far (p := ⟨gb330, 3, none⟩) (Kd.R_far (p := ⟨gb330, 2, none⟩) (Kd.R_far (p := ⟨gb330, 1, none⟩) (Kd.R_far (p := ⟨gb330, 0, none⟩) (Kd.R_types HO329.out BK330.out (by decide)) (fun _ hk => hk.2) (.int .i64 t319)) (fun _ hk => hk.2) (.int .i64 t320)) (fun _ hk => hk.2) (.int .i64 t321)) (fun _ hk => hk.2) (.int .i64 t322)) (fun _ hk => hk.2) (.int .i64 t323)) (fun _ hk => hk.2) (.int .i64 t324)) (fun _ hk => hk.2) (.int .i64 t325)) (fun _ hk => hk.2) (.string t326)) (fun _ h_ => h_.1)))) k_ hk)); (case aO => exact (by (with_reducible repeat (first | apply Kd.R_alloc | apply Kd.R_drewN | apply Kd.R_drew)); exact Kd.R_mono (Kd.R_far (p := ⟨gb330, 7, none⟩) (Kd.R_far (p := ⟨gb330, 6, none⟩) (Kd.R_far (p := ⟨gb330, 5, none⟩) (Kd.R_far (p := ⟨gb330, 4, none⟩) (Kd.R_far (p := ⟨gb330, 3, none⟩) (Kd.R_far (p := ⟨gb330, 2, none⟩) (Kd.R_far (p := ⟨gb330, 1, none⟩) (Kd.R_far (p := ⟨gb330, 0, none⟩) (Kd.R_types HO_5.out BK330.out (by decide)) (fun _ hk => hk.2) (.int .i64 t319)) (fun _ hk => hk.2) (.int .i64 t320)) (fun _ hk => hk.2) (.int .i64 t321)) (fun _ hk => hk.2) (.int .i64 t322)) (fun _ hk => hk.2) (.int .i64 t323)) (fun _ hk => hk.2) (.int .i64 t324)) (fun _ hk => hk.2) (.int .i64 t325)) (fun _ hk => hk.2) (.string t326)) (fun _ hk => hk.1))); (case aS => exact (below_size (hbw HB.out))); (case aL => have := LMc15.out; omega); intro v332 w28 ho hb hg hat; rw [← Ny331.out] at ho; have n0_ := sA (blk_grown (g := gb305) (o := .cells #[.int .i64 a0_0] 23 (0, 0)) (by (repeat (with_reducible first | refine blk_far ?_ NB305_330.out _ | refine blk_drewN ?_ _ | refine blk_drew ?_ | refine blk_alloc ?_ _)); exact BK305.out) hg (Kd.R_ne HO_5.out BK305.out (by decide))); have n1_ := sA (blk_grown (g := gb317) (o := .cells #[.int .i64 x318000_1, .int .i64 x318001_1, .int .i64 x318002_1, .int .i64 x318003_1, .int .i64 x318004_1, .int .i64 x318005_1, .int .i64 x318006_1, .string x318007_1] 27 (0, 0)) (by (repeat (with_reducible first | refine blk_far ?_ NB317_330.out _ | refine blk_drewN ?_ _ | refine blk_drew ?_ | refine blk_alloc ?_ _)); exact BK317.out) hg (Kd.R_ne HO_5.out BK317.out (by decide))); have n2_ := sA (Kd.R_after (ok := (fun _ => True)) (by (with_reducible repeat (first | apply Kd.R_alloc | apply Kd.R_drewN | apply Kd.R_drew)); exact Kd.R_mono (Kd.R_far (p := ⟨gb330, 7, none⟩) (Kd.R_far (p := ⟨gb330, 6, none⟩) (Kd.R_far (p := ⟨gb330, 5, none⟩) (Kd.R_far (p := ⟨gb330, 4, none⟩) (Kd.R_far (p := ⟨gb330, 3, none⟩) (Kd.R_far (p := ⟨gb330, 2, none⟩) (Kd.R_far (p := ⟨gb330, 1, none⟩) (Kd.R_far (p := ⟨gb330, 0, none⟩) (Kd.R_types HO329.out BK330.out (by decide)) (fun _ hk => hk.2) (.int .i64 t319)) (fun _ hk => hk.2) (.int .i64 t320)) (fun _ hk => hk.2) (.int .i64 t321)) (fun _ hk => hk.2) (.int .i64 t322)) (fun _ hk => hk.2) (.int .i64 t323)) (fun _ hk => hk.2) (.int .i64 t324)) (fun _ hk => hk.2) (.int .i64 t325)) (fun _ hk => hk.2) (.string t326)) (fun _ hk => ⟨trivial, hk.1⟩)) hg hat); have n3_ := sA (blk_grown (g := gb330) (o := .cells #[.int .i64 t319, .int .i64 t320, .int .i64 t321, .int .i64 t322, .int .i64 t323, .int .i64 t324, .int .i64 t325, .string t326] 27 (0, 0)) (by (with_reducible repeat (first | refine blk_drewN ?_ _ | refine blk_drew ?_ | refine blk_alloc ?_ _)); refine blk_put8 (.int .i64 0) (.int .i64 0) (.int .i64 0) (.int .i64 0) (.int .i64 0) (.int .i64 0) (.int .i64 0) (.string (⟨#[]⟩ : ByteArray)) ?_; (with_reducible repeat (first | refine blk_drewN ?_ _ | refine blk_drew ?_ | refine blk_alloc ?_ _)); exact BK330.out) hg (Kd.R_ne HO_5.out BK330.out (by decide))); have n4_ := sA (hb); have n5_ := sA (ho); clear BK305; clear BK317; clear HO329; clear BK330; clear HB; clear HO_5; have BK305 := n0_; have BK317 := n1_; have HO329 := n2_; have BK330 := n3_; have HB := n4_; have HO333 := n5_; clear n0_ n1_ n2_ n3_ n4_ n5_; clear ho hb hg hat; have hnb30 := NB330_305.out; have hnc30 := NB305_330.out; have hnb31 := NB330_317.out; have hnc31 := NB317_330.out; obtain ⟨_,_,_,_,_,_,_,_,_,_,_,_,_,_,_,_⟩ := cQ8 BK330; have hnb33 := NB317_305.out; have hnc33 := NB305_317.out; obtain ⟨_,_,_,_,_,_,_,_,_,_,_,_,_,_,_,_⟩ := cQ8 BK317))
      go_roundg k1
      case measure => have := HK1.out; omega
      case rel => exact ⟨(y331), (wrap64 (x7_1 + 1)), (t319), (t320), (t321), (t322), (t323), (t324), (t325), (t326), (by first | rfl | (simp; done) | (simp [*]; done)), H', ⟨by have := HK1.out; omega⟩, ⟨by (with_reducible repeat (first | apply Kd.R_alloc | apply Kd.R_drewN | apply Kd.R_drew)); exact Kd.R_mono (Kd.R_far (p := ⟨gb317, 7, none⟩) (Kd.R_far (p := ⟨gb317, 6, none⟩) (Kd.R_far (p := ⟨gb317, 5, none⟩) (Kd.R_far (p := ⟨gb317, 4, none⟩) (Kd.R_far (p := ⟨gb317, 3, none⟩) (Kd.R_far (p := ⟨gb317, 2, none⟩) (Kd.R_far (p := ⟨gb317, 1, none⟩) (Kd.R_far (p := ⟨gb317, 0, none⟩) (Kd.R_types HO333.out BK317.out (by decide)) (fun _ hk => hk.2) (.int .i64 t319)) (fun _ hk => hk.2) (.int .i64 t320)) (fun _ hk => hk.2) (.int .i64 t321)) (fun _ hk => hk.2) (.int .i64 t322)) (fun _ hk => hk.2) (.int .i64 t323)) (fun _ hk => hk.2) (.int .i64 t324)) (fun _ hk => hk.2) (.int .i64 t325)) (fun _ hk => hk.2) (.string t326)) (fun _ hk => trivial)⟩, ⟨by (repeat (with_reducible first | refine blk_far ?_ NB305_317.out _ | refine blk_drewN ?_ _ | refine blk_drew ?_ | refine blk_alloc ?_ _)); exact BK305.out⟩, ⟨by (with_reducible repeat (first | refine blk_drewN ?_ _ | refine blk_drew ?_ | refine blk_alloc ?_ _)); refine blk_put8 (.int .i64 x318000_1) (.int .i64 x318001_1) (.int .i64 x318002_1) (.int .i64 x318003_1) (.int .i64 x318004_1) (.int .i64 x318005_1) (.int .i64 x318006_1) (.string x318007_1) ?_; (with_reducible repeat (first | refine blk_drewN ?_ _ | refine blk_drew ?_ | refine blk_alloc ?_ _)); exact BK317.out⟩, ⟨hbw HB.out⟩⟩
     ·rw [if_neg c15] at H
      exact absurd H (by simp)
    ·rw [if_neg c13] at H
     exact absurd H (by simp)
   ·rw [if_neg c12] at H
    have c12b0 : decide (x7_1 < (l1.length : Int)) = false := decide_eq_false c12; clear c12; replace H := Option.bind_eq_some_iff.mp H; obtain ⟨t334, A350, H⟩ := H; replace H : (if x5_1.length + t334.length < 2199023255552 then (some (x5_1 ++ t334)) else (none)) = some r := H; have A35 := sA A350; clear A350
    by_cases c36 : x5_1.length + t334.length < 2199023255552
    ·rw [if_pos c36] at H
     have LMc36 := sA c36; clear c36; obtain ⟨y337, hy337⟩ : ∃ y_ : List (S32), y_ = (x5_1 ++ t334) := ⟨_, rfl⟩
     replace H : (some y337) = some r := by first | (rw [hy337]; with_reducible exact H) | (have H2_ := (Option.bind_some _ _).symm.trans H; rw [hy337]; with_reducible exact H2_) | (have H2_ := (Option.bind_some _ _).symm.trans H; with_reducible exact H2_) | with_reducible exact H | (rw [hy337]; exact H) | exact H
     have Ny337 := sA hy337; clear hy337; obtain rfl := Option.some.inj H; have hnb37 := NB305_317.out; have hnc37 := NB317_305.out; obtain ⟨_,_⟩ := cQ1 BK305; obtain ⟨_,_,_,_,_,_,_,_,_,_,_,_,_,_,_,_⟩ := cQ8 BK317
     go_wp2_with (first | ((with_reducible refine gate_callee (f := 17) rfl ?_); refine goesK (some 36) Tryd.func17 #[.agg #[.int .i64 a0_0], .agg #[.int .i64 x318000_1, .int .i64 x318001_1, .int .i64 x318002_1, .int .i64 x318003_1, .int .i64 x318004_1, .int .i64 x318005_1, .int .i64 x318006_1, .string x318007_1]] ?_; (with_reducible refine (signalbenchref30_End.calls k1 a0_0 x318000_1 x318001_1 x318002_1 x318003_1 x318004_1 x318005_1 x318006_1 x318007_1 t334 _ A35.out).mono ?_); rintro e w40 ⟨v335, rfl, ho0, hb⟩; refine ⟨_, rfl, ?_⟩; have HO336 := sA (Kd.R_lower (Kd.R_new' ho0 (Kd.R_lt (rkw HO_5.out))) (below_size (hbw HB.out))); replace HO_5 := sA (Kd.R_elder' (rkw HO_5.out) (Kd.R_base ho0) hb); replace BK305 := sA (blkb BK305.out hb); replace BK317 := sA (blkb BK317.out hb); replace HB := bst HB hb; (try clear hb); (try clear hk); (try clear ho0); obtain ⟨Ao42, co42, eo42⟩ := Kd.R_slice HO336.out; subst eo42) | ((with_reducible refine gate_builtin (b := .append) (xs := #[.tmp 33, .tmp 36]) rfl ?_); at_builtin; refine Kd.R_append_rows k32 (w0 := w) w.heap.size rfl (.tmp 33) (.tmp 36) 24 32 (.agg #[(.int .i64 0), (.int .i64 0), (.int .i64 0), (.int .i64 0), (.int .i64 0), (.string ⟨#[]⟩), (.int .i64 0)]) 64 rfl Tryd.underlying24 info32 rfl (by decide) (by omega) u5 x5_1 t334 _ _ _ (fun k_ => some k_ ≠ (.slice Ao42 t334.length co42 : Value).ownBlock) (fun _ => False) rfl rfl ?aO ?aR (fun _ _ h => h) (fun _ h => h.elim) ?aF ?aB ?aS ?aL ?_; (case aR => repeat (first | exact (Kd.R_reads' HO336.out).2.2 | (with_reducible refine Kd.C_alloc ?_ _) | (with_reducible refine Kd.C_drewN ?_ _) | (with_reducible refine Kd.C_drew ?_))); (case aB => exact (hbw HB.out)); (case aF => exact (fun k_ hk => Kd.fresh' (Kd.R_lt (rkw HO336.out)) k_ hk)); (case aO => exact (by (with_reducible repeat (first | apply Kd.R_alloc | apply Kd.R_drewN | apply Kd.R_drew)); exact Kd.R_mono HO_5.out (fun _ hk => hk.2))); (case aS => exact (below_size (hbw HB.out))); (case aL => have := LMc36.out; omega); intro v338 w41 ho hb hg hat; rw [← Ny337.out] at ho; have n0_ := sA (blkg BK305.out hg (Kd.R_ne HO_5.out BK305.out (by decide))); have n1_ := sA (blkg BK317.out hg (Kd.R_ne HO_5.out BK317.out (by decide))); have n2_ := sA (Kd.R_after (ok := (fun _ => True)) (rkw HO336.out) hg hat); have n3_ := sA (hb); have n4_ := sA (ho); clear BK305; clear BK317; clear HO336; clear HB; clear HO_5; have BK305 := n0_; have BK317 := n1_; have HO336 := n2_; have HB := n3_; have HO339 := n4_; clear n0_ n1_ n2_ n3_ n4_; clear ho hb hg hat))
     go_ret
     exact ⟨_, eW_, by (with_reducible repeat (first | apply Kd.R_alloc | apply Kd.R_drewN | apply Kd.R_drew)); exact Kd.R_mono HO339.out (fun _ hk => trivial), hbw HB.out⟩
    ·rw [if_neg c36] at H
     exact absurd H (by simp)

end Go.Proofs.YtmalhgidhieamaaDoor.PModbusDecodes
