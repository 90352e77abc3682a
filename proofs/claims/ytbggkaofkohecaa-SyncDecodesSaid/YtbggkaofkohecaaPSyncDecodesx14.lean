-- Written by a program of this session (wip/tools/pr.py), which calls the kit's print with changes of its own.
import Derived.Test.YtbggkaofkohecaaPSyncDecodesx0
import Derived.Test.YtbggkaofkohecaaPSyncDecodesx1
import Derived.Test.YtbggkaofkohecaaPSyncDecodesx9
import Derived.Test.YtbggkaofkohecaaPSyncDecodesx10
import Derived.Test.YtbggkaofkohecaaPSyncDecodesx13
namespace Go.Proofs.Ytbggkaofkohecaa.PSyncDecodes
open Go.RowKit Go.Proofs.YtbggkaofkohecaaW.PrintWords Go.Proofs.YtbggkaofkohecaaW.PrintLast Go.Proofs.YtbggkaofkohecaaW.PrintMore
attribute [local go_sem] max2_int min2_int max_two min_two max_three min_three max_four min_four   -- for this text's walks alone
set_option linter.unusedVariables false
set_option linter.unusedSimpArgs false

attribute [local go_sem high] eqA32
/-! ### signalbenchlaw21_same: function 13 -/
mutual
def signalbenchlaw21_same.j0 : Nat → List (S32) → List (S32) → Option (Bool)
 | 0, _, _ => none
 | k + 1, x0, x1 => signalbenchlaw21_same.l0 k x0 x1 0
def signalbenchlaw21_same.l0 : Nat → List (S32) → List (S32) → Int → Option (Bool)
 | 0, _, _, _ => none
 | k + 1, x0, x1, x5 => if x5 < (x0.length : Int) then (if 0 ≤ x5 then (if x5 < (x1.length : Int) then (if (!(((rd_T32 x0 x5).f0) == ((rd_T32 x1 x5).f0)) || (!(((rd_T32 x0 x5).f1) == ((rd_T32 x1 x5).f1)) || (!(((rd_T32 x0 x5).f2) == ((rd_T32 x1 x5).f2)) || (!(((rd_T32 x0 x5).f3) == ((rd_T32 x1 x5).f3)) || (!(((rd_T32 x0 x5).f4) == ((rd_T32 x1 x5).f4)) || (!((((rd_T32 x0 x5).f5).toList) == (((rd_T32 x1 x5).f5).toList)) || (!(((rd_T32 x0 x5).f6) == ((rd_T32 x1 x5).f6))))))))) = true then (some false) else (signalbenchlaw21_same.l0 k x0 x1 (wrap64 (x5 + 1)))) else (none)) else (none)) else (some true)
end
def signalbenchlaw21_same.f (k : Nat) (l0 : List (S32)) (l1 : List (S32)) : Option (Bool) := if (l0.length : Int) = (l1.length : Int) then (signalbenchlaw21_same.j0 k l0 l1) else (some false)
theorem signalbenchlaw21_same.mono_l : ∀ k, (∀ y0 y1, LeO (signalbenchlaw21_same.j0 k y0 y1) (signalbenchlaw21_same.j0 (k + 1) y0 y1)) ∧ (∀ y0 y1 y2, LeO (signalbenchlaw21_same.l0 k y0 y1 y2) (signalbenchlaw21_same.l0 (k + 1) y0 y1 y2))
 | 0 => ⟨fun _ _ r h => by simp [signalbenchlaw21_same.j0] at h, fun _ _ _ r h => by simp [signalbenchlaw21_same.l0] at h⟩
 | k + 1 => by
  obtain ⟨ih0, ih1⟩ := signalbenchlaw21_same.mono_l k
  refine ⟨?_, ?_⟩
  ·intro y0 y1
   unfold signalbenchlaw21_same.j0
   repeat' first
   | (with_reducible exact ih0 _ _)
   | (with_reducible exact ih1 _ _ _)
   | (with_reducible exact LeO.refl _)
   | (with_reducible exact LeO.none _)
   | (with_reducible refine LeO.ite ?_ ?_)
   | (with_reducible refine LeO.bind ?_ (fun _ => ?_))
   | exact ih0 _ _
   | exact ih1 _ _ _
   | exact LeO.none _
   | refine LeO.ite ?_ ?_
   | refine LeO.bind ?_ (fun _ => ?_)
  ·intro y0 y1 y2
   unfold signalbenchlaw21_same.l0
   repeat' first
   | (with_reducible exact ih0 _ _)
   | (with_reducible exact ih1 _ _ _)
   | (with_reducible exact LeO.refl _)
   | (with_reducible exact LeO.none _)
   | (with_reducible refine LeO.ite ?_ ?_)
   | (with_reducible refine LeO.bind ?_ (fun _ => ?_))
   | exact ih0 _ _
   | exact ih1 _ _ _
   | exact LeO.none _
   | refine LeO.ite ?_ ?_
   | refine LeO.bind ?_ (fun _ => ?_)
theorem signalbenchlaw21_same.mono : ∀ a0 a1 k, LeO (signalbenchlaw21_same.f k a0 a1) (signalbenchlaw21_same.f (k + 1) a0 a1) := by
 intro a0 a1 k
 obtain ⟨ih0, ih1⟩ := signalbenchlaw21_same.mono_l k
 unfold signalbenchlaw21_same.f
 repeat' first
   | (with_reducible exact ih0 _ _)
   | (with_reducible exact ih1 _ _ _)
   | (with_reducible exact LeO.refl _)
   | (with_reducible exact LeO.none _)
   | (with_reducible refine LeO.ite ?_ ?_)
   | (with_reducible refine LeO.bind ?_ (fun _ => ?_))
   | exact ih0 _ _
   | exact ih1 _ _ _
   | exact LeO.none _
   | refine LeO.ite ?_ ?_
   | refine LeO.bind ?_ (fun _ => ?_)
set_option maxHeartbeats 8000000 in
set_option maxRecDepth 100000 in
theorem signalbenchlaw21_same.calls (k : Nat) (A0 : Option Addr) (c0 : Nat) (l0 : List (S32)) (A1 : Option Addr) (c1 : Nat) (l1 : List (S32)) (r : Bool) (w : World) (hr0 : Kd.C k32 w A0 l0.length l0) (hc0 : l0.length ≤ c0) (hr1 : Kd.C k32 w A1 l1.length l1) (hc1 : l1.length ≤ c1) (h : signalbenchlaw21_same.f k l0 l1 = some r) :
  Calls Try.prog 13 #[.slice A0 l0.length c0, .slice A1 l1.length c1] w fun e w' => e = .returned (.bool r) ∧ Drawn0 w w' := by
 have hu32 := Try.underlying32; have HR0 := sA hr0; have HC0 := sA hc0; clear hr0 hc0; have HR1 := sA hr1; have HC1 := sA hc1; clear hr1 hc1; have H : (if (l0.length : Int) = (l1.length : Int) then (signalbenchlaw21_same.j0 k l0 l1) else (some false)) = some r := h; clear h; have HC3 := sA H; clear H
 go_enter Try.func13, Try.ntmps13
 go_upto_if 10 with (fail)
 repeat (go_quiet (fail); go_upto_if 10 with (fail))
 go_cut [] (fun wc => ∃ (kq : Nat), Aside0 (signalbenchlaw21_same.j0 kq l0 l1 = some r) ∧ Aside0 (kq ≤ k) ∧ Drawn0 w wc)
 case first =>
  have H := HC3.out; clear HC3
  by_cases c4 : (l0.length : Int) = (l1.length : Int)
  ·rw [if_pos c4] at H
   have c4b0 : ((l0.length : Int) == (l1.length : Int)) = true := beq_iff_eq.mpr c4; have c4b1 : ((l0.length : Int) != (l1.length : Int)) = false := bne_eq_false_iff_eq.mpr c4
   have c4b2 : (l0.length == l1.length) = true := by first | simpa using c4 | (simp at c4 ⊢; omega)
   clear c4
   (first | rw [c4b0] | (simp only [i64_w, i32_w]; rw [c4b0]) | skip)
   have H' := sA H; clear H
   go_wp2
   repeat (go_quiet (fail); try go_wp2)
   go_meet
   case rel => exact ⟨_, H', ⟨by first | omega | exact Nat.le_refl _⟩, by repeat (first | exact Drawn0.refl _ | apply Drawn0.step)⟩
  ·rw [if_neg c4] at H
   have c4b0 : ((l0.length : Int) == (l1.length : Int)) = false := beq_eq_false_iff_ne.mpr c4; have c4b1 : ((l0.length : Int) != (l1.length : Int)) = true := bne_iff_ne.mpr c4
   have c4b2 : (l0.length == l1.length) = false := by first | simpa using c4 | (simp at c4 ⊢; omega)
   (first | rw [c4b0] | (simp only [i64_w, i32_w]; rw [c4b0]) | skip)
   obtain rfl := Option.some.inj H
   go_wp2
   repeat (go_quiet (fail); try go_wp2)
   go_ret
   exact ⟨by first | rfl | (simp; done) | (simp [*]; done), by repeat (first | exact Drawn0.refl _ | apply Drawn0.step)⟩
 case rest =>
  clear HC3
  try clear c1
  obtain ⟨kq, HA, HJ2, ⟨mc2, rfl⟩⟩ := hcut
  cases kq with
  | zero => exact absurd HA.out (by simp [signalbenchlaw21_same.j0])
  | succ kj2 =>
   have H := HA.out; clear HA
   simp only [signalbenchlaw21_same.j0] at H
   have H' := sA H; clear H
   go_wp2
   repeat (go_quiet (fail); try go_wp2)
   go_loopg [5] kj2 (fun kq v5 w' => ∃ (x5_2 : Int), v5 = .int .i64 x5_2 ∧ Aside0 (signalbenchlaw21_same.l0 kq l0 l1 x5_2 = some r) ∧ Aside0 (kq ≤ kj2) ∧ Drawn0 w w')
   case atStart => exact ⟨(0), (by first | rfl | (simp; done) | (simp [*]; done)), H', ⟨Nat.le_refl _⟩, by repeat (first | exact Drawn0.refl _ | apply Drawn0.step)⟩
   case round =>
    clear H'
    try clear c1
    obtain ⟨x5_2, rfl, HA, HK2, ⟨m2, rfl⟩⟩ := hrel
    cases gk with
    | zero => exact absurd HA.out (by simp [signalbenchlaw21_same.l0])
    | succ k2 =>
     have H := HA.out; clear HA
     simp only [signalbenchlaw21_same.l0] at H
     by_cases c5 : x5_2 < (l0.length : Int)
     ·rw [if_pos c5] at H
      have c5b0 : decide (x5_2 < (l0.length : Int)) = true := decide_eq_true c5; clear c5
      by_cases c6 : 0 ≤ x5_2
      ·rw [if_pos c6] at H
       have c6b0 : decide (0 ≤ x5_2) = true := decide_eq_true c6; clear c6
       by_cases c7 : x5_2 < (l1.length : Int)
       ·rw [if_pos c7] at H
        have c7b0 : decide (x5_2 < (l1.length : Int)) = true := decide_eq_true c7; clear c7
        by_cases c8 : (!(((rd_T32 l0 x5_2).f0) == ((rd_T32 l1 x5_2).f0)) || (!(((rd_T32 l0 x5_2).f1) == ((rd_T32 l1 x5_2).f1)) || (!(((rd_T32 l0 x5_2).f2) == ((rd_T32 l1 x5_2).f2)) || (!(((rd_T32 l0 x5_2).f3) == ((rd_T32 l1 x5_2).f3)) || (!(((rd_T32 l0 x5_2).f4) == ((rd_T32 l1 x5_2).f4)) || (!((((rd_T32 l0 x5_2).f5).toList) == (((rd_T32 l1 x5_2).f5).toList)) || (!(((rd_T32 l0 x5_2).f6) == ((rd_T32 l1 x5_2).f6))))))))) = true
        ·rw [if_pos c8] at H
         have c8b0 : (!(((rd_T32 l0 x5_2).f0) == ((rd_T32 l1 x5_2).f0)) || (!(((rd_T32 l0 x5_2).f1) == ((rd_T32 l1 x5_2).f1)) || (!(((rd_T32 l0 x5_2).f2) == ((rd_T32 l1 x5_2).f2)) || (!(((rd_T32 l0 x5_2).f3) == ((rd_T32 l1 x5_2).f3)) || (!(((rd_T32 l0 x5_2).f4) == ((rd_T32 l1 x5_2).f4)) || (!((((rd_T32 l0 x5_2).f5).toList) == (((rd_T32 l1 x5_2).f5).toList)) || (!(((rd_T32 l0 x5_2).f6) == ((rd_T32 l1 x5_2).f6))))))))) = true := c8; (try (have c8b1 : ((rd_T32 l0 x5_2).f0 = ((rd_T32 l1 x5_2).f0) ∧ (rd_T32 l0 x5_2).f1 = ((rd_T32 l1 x5_2).f1) ∧ (rd_T32 l0 x5_2).f2 = ((rd_T32 l1 x5_2).f2) ∧ (rd_T32 l0 x5_2).f3 = ((rd_T32 l1 x5_2).f3) ∧ (rd_T32 l0 x5_2).f4 = ((rd_T32 l1 x5_2).f4) ∧ ((rd_T32 l0 x5_2).f5).toList = (((rd_T32 l1 x5_2).f5).toList) ∧ (rd_T32 l0 x5_2).f6 = ((rd_T32 l1 x5_2).f6)) = False := eq_false (by intro h_; have e_ := c8; simp [h_] at e_))); clear c8; obtain rfl := Option.some.inj H; have p375 : 0 ≤ (x5_2 : Int) := of_decide_eq_true (by first | (with_reducible assumption) | assumption); have q375 : x5_2 < (l0.length : Int) := of_decide_eq_true (by first | (with_reducible assumption) | assumption); obtain ⟨ad375, e375, hx375_0, hx375_1, hx375_2, hx375_3, hx375_4, hx375_5, hx375_6⟩ := at_T32 HR0.out x5_2 p375 q375
         cases e375
         replace p375 := eq_true p375; replace q375 := eq_true q375; have p376 : 0 ≤ (x5_2 : Int) := of_decide_eq_true (by first | (with_reducible assumption) | assumption); have q376 : x5_2 < (l1.length : Int) := of_decide_eq_true (by first | (with_reducible assumption) | assumption); obtain ⟨ad376, e376, hx376_0, hx376_1, hx376_2, hx376_3, hx376_4, hx376_5, hx376_6⟩ := at_T32 HR1.out x5_2 p376 q376
         cases e376
         replace p376 := eq_true p376; replace q376 := eq_true q376
         go_wp2
         repeat (go_quiet (fail); try go_wp2)
         go_ret
         exact ⟨by first | rfl | (simp; done) | (simp [*]; done), by repeat (first | exact Drawn0.refl _ | apply Drawn0.step)⟩
        ·rw [if_neg c8] at H
         have c8b0 : (!(((rd_T32 l0 x5_2).f0) == ((rd_T32 l1 x5_2).f0)) || (!(((rd_T32 l0 x5_2).f1) == ((rd_T32 l1 x5_2).f1)) || (!(((rd_T32 l0 x5_2).f2) == ((rd_T32 l1 x5_2).f2)) || (!(((rd_T32 l0 x5_2).f3) == ((rd_T32 l1 x5_2).f3)) || (!(((rd_T32 l0 x5_2).f4) == ((rd_T32 l1 x5_2).f4)) || (!((((rd_T32 l0 x5_2).f5).toList) == (((rd_T32 l1 x5_2).f5).toList)) || (!(((rd_T32 l0 x5_2).f6) == ((rd_T32 l1 x5_2).f6))))))))) = false := by simpa using c8
         (try (have c8b1 : ((rd_T32 l0 x5_2).f0 = ((rd_T32 l1 x5_2).f0) ∧ (rd_T32 l0 x5_2).f1 = ((rd_T32 l1 x5_2).f1) ∧ (rd_T32 l0 x5_2).f2 = ((rd_T32 l1 x5_2).f2) ∧ (rd_T32 l0 x5_2).f3 = ((rd_T32 l1 x5_2).f3) ∧ (rd_T32 l0 x5_2).f4 = ((rd_T32 l1 x5_2).f4) ∧ ((rd_T32 l0 x5_2).f5).toList = (((rd_T32 l1 x5_2).f5).toList) ∧ (rd_T32 l0 x5_2).f6 = ((rd_T32 l1 x5_2).f6)) = True := eq_true (by simpa using c8))); clear c8; have H' := sA H; clear H; have p375 : 0 ≤ (x5_2 : Int) := of_decide_eq_true (by first | (with_reducible assumption) | assumption); have q375 : x5_2 < (l0.length : Int) := of_decide_eq_true (by first | (with_reducible assumption) | assumption); obtain ⟨ad375, e375, hx375_0, hx375_1, hx375_2, hx375_3, hx375_4, hx375_5, hx375_6⟩ := at_T32 HR0.out x5_2 p375 q375
         cases e375
         replace p375 := eq_true p375; replace q375 := eq_true q375; have p376 : 0 ≤ (x5_2 : Int) := of_decide_eq_true (by first | (with_reducible assumption) | assumption); have q376 : x5_2 < (l1.length : Int) := of_decide_eq_true (by first | (with_reducible assumption) | assumption); obtain ⟨ad376, e376, hx376_0, hx376_1, hx376_2, hx376_3, hx376_4, hx376_5, hx376_6⟩ := at_T32 HR1.out x5_2 p376 q376
         cases e376
         replace p376 := eq_true p376; replace q376 := eq_true q376
         go_wp2
         repeat (go_quiet (fail); try go_wp2)
         go_roundg k2
         case measure => have := HJ2.out; have := HK2.out; omega
         case rel => exact ⟨(wrap64 (x5_2 + 1)), (by first | rfl | (simp; done) | (simp [*]; done)), H', ⟨by have := HJ2.out; have := HK2.out; omega⟩, by repeat (first | exact Drawn0.refl _ | apply Drawn0.step)⟩
       ·rw [if_neg c7] at H
        exact absurd H (by simp)
      ·rw [if_neg c6] at H
       exact absurd H (by simp)
     ·rw [if_neg c5] at H
      have c5b0 : decide (x5_2 < (l0.length : Int)) = false := decide_eq_false c5; clear c5; obtain rfl := Option.some.inj H
      go_wp2
      repeat (go_quiet (fail); try go_wp2)
      go_ret
      exact ⟨by first | rfl | (simp; done) | (simp [*]; done), by repeat (first | exact Drawn0.refl _ | apply Drawn0.step)⟩

/-! ### signalbenchref21_End: function 15 -/
def signalbenchref21_End.f (k : Nat) (a0_0 : ByteArray) (a0_1 : Int) (a0_2 : Bool) (a1_0 : Int) (a1_1 : Int) (a1_2 : Int) (a1_3 : Int) (a1_4 : Int) (a1_5 : Int) (a1_6 : Int) (a1_7 : ByteArray) : Option ((List (S32))) := (signalbenchref21_Check.f k a0_0 a0_1 a0_2).bind fun t379 => (if t379 = 0 then ((signalbenchref21_collected.f a1_0 a1_1 a1_2 a1_3 a1_4 a1_5 a1_6 a1_7 a1_1).bind fun t380 => (some t380)) else (some ([] : List (S32))))
theorem signalbenchref21_End.mono : ∀ a0 a1 a2 a3 a4 a5 a6 a7 a8 a9 a10 k, LeO (signalbenchref21_End.f k a0 a1 a2 a3 a4 a5 a6 a7 a8 a9 a10) (signalbenchref21_End.f (k + 1) a0 a1 a2 a3 a4 a5 a6 a7 a8 a9 a10) := by
 intro a0 a1 a2 a3 a4 a5 a6 a7 a8 a9 a10 k
 unfold signalbenchref21_End.f
 repeat' first
   | (with_reducible exact signalbenchref21_Check.mono _ _ _ _)
   | (with_reducible exact LeO.refl _)
   | (with_reducible exact LeO.none _)
   | (with_reducible refine LeO.ite ?_ ?_)
   | (with_reducible refine LeO.bind ?_ (fun _ => ?_))
   | exact signalbenchref21_Check.mono _ _ _ _
   | exact LeO.none _
   | refine LeO.ite ?_ ?_
   | refine LeO.bind ?_ (fun _ => ?_)
set_option maxHeartbeats 8000000 in
set_option maxRecDepth 100000 in
theorem signalbenchref21_End.calls (k : Nat) (a0_0 : ByteArray) (a0_1 : Int) (a0_2 : Bool) (a1_0 : Int) (a1_1 : Int) (a1_2 : Int) (a1_3 : Int) (a1_4 : Int) (a1_5 : Int) (a1_6 : Int) (a1_7 : ByteArray) (r : List (S32)) (w : World) (h : signalbenchref21_End.f k a0_0 a0_1 a0_2 a1_0 a1_1 a1_2 a1_3 a1_4 a1_5 a1_6 a1_7 = some r) :
  Calls Try.prog 15 #[.agg #[.string a0_0, .int .i64 a0_1, .bool a0_2], .agg #[.int .i64 a1_0, .int .i64 a1_1, .int .i64 a1_2, .int .i64 a1_3, .int .i64 a1_4, .int .i64 a1_5, .int .i64 a1_6, .string a1_7]] w fun e w' => ∃ v0_ : Value, e = .returned (v0_) ∧ Kd.R k32 32 w' w.heap.size (fun _ => True) v0_ r ∧ Below w.heap.size w w' := by
 have hu23 := Try.underlying23; have hu27 := Try.underlying27; have HB := sA (Below.refl w.heap.size w); have H : ((signalbenchref21_Check.f k a0_0 a0_1 a0_2).bind fun t379 => (if t379 = 0 then ((signalbenchref21_collected.f a1_0 a1_1 a1_2 a1_3 a1_4 a1_5 a1_6 a1_7 a1_1).bind fun t380 => (some t380)) else (some ([] : List (S32))))) = some r := h; clear h; replace H := Option.bind_eq_some_iff.mp H; obtain ⟨t379, A30, H⟩ := H; replace H : (if t379 = 0 then ((signalbenchref21_collected.f a1_0 a1_1 a1_2 a1_3 a1_4 a1_5 a1_6 a1_7 a1_1).bind fun t380 => (some t380)) else (some ([] : List (S32)))) = some r := H; have A3 := sA A30; clear A30
 by_cases c4 : t379 = 0
 ·rw [if_pos c4] at H
  have c4b0 : (t379 == 0) = true := beq_iff_eq.mpr c4; have c4b1 : (t379 != 0) = false := bne_eq_false_iff_eq.mpr c4; clear c4; replace H := Option.bind_eq_some_iff.mp H; obtain ⟨t380, A50, H⟩ := H; replace H : (some t380) = some r := H; have A5 := sA A50; clear A50; obtain rfl := Option.some.inj H
  go_enter Try.func15, Try.ntmps15
  go_wp2_with (first | ((with_reducible refine gate_dst (N := 2) rfl ?_); refine boxK 2 #[.string a0_0, .int .i64 a0_1, .bool a0_2] 23 ?_; intro gb377 hg w6 hbox hb; have BK377 := sA hbox; have GW377 := bsz HB hg; have GE377 := bsz HB hg; replace HB := bst HB hb; clear hb hbox hg) | ((with_reducible refine gate_dst (N := 3) rfl ?_); refine boxK 3 #[.int .i64 a1_0, .int .i64 a1_1, .int .i64 a1_2, .int .i64 a1_3, .int .i64 a1_4, .int .i64 a1_5, .int .i64 a1_6, .string a1_7] 27 ?_; intro gb378 hg w7 hbox hb; have BK378 := sA hbox; have GW378 := bsz HB hg; have GE378 := bsz HB hg; have NB377_378 := bnl BK377 hg; have NB378_377 := bng BK377 hg; replace BK377 := sA (blkb BK377.out hb); replace HB := bst HB hb; clear hb hbox hg; have hnb8 := NB377_378.out; have hnc8 := NB378_377.out; obtain ⟨_,_,_,_,_,_⟩ := cQ3 BK377) | ((with_reducible refine gate_callee (f := 22) rfl ?_); refine goesK (some 6) Try.func22 #[.agg #[.string a0_0, .int .i64 a0_1, .bool a0_2]] ?_; (with_reducible refine (signalbenchref21_Check.calls k a0_0 a0_1 a0_2 t379 _ A3.out).mono ?_); rintro e w10 ⟨rfl, hb⟩; refine ⟨_, rfl, ?_⟩; replace BK377 := sA (blkb BK377.out hb); replace BK378 := sA (blkb BK378.out hb); replace HB := bst HB hb; (try clear hb); obtain ⟨hcz11_0,hcz11_1,hcz11_2,hcz11_3,hcz11_4,hcz11_5,hcz11_6,hcz11_7,hfz11_0,hfz11_1,hfz11_2,hfz11_3,hfz11_4,hfz11_5,hfz11_6,hfz11_7⟩ := cQ8 BK378) | ((with_reducible refine gate_callee (f := 36) rfl ?_); refine goesK (some 11) Try.func36 #[.agg #[.int .i64 a1_0, .int .i64 a1_1, .int .i64 a1_2, .int .i64 a1_3, .int .i64 a1_4, .int .i64 a1_5, .int .i64 a1_6, .string a1_7], .int .i64 a1_1] ?_; (with_reducible refine (signalbenchref21_collected.calls a1_0 a1_1 a1_2 a1_3 a1_4 a1_5 a1_6 a1_7 a1_1 t380 _ A5.out).mono ?_); rintro e w12 ⟨v381, rfl, ho0, hb⟩; refine ⟨_, rfl, ?_⟩; have HO382 := sA (Kd.R_lower ho0 (below_size (hbw HB.out))); replace BK377 := sA (blkb BK377.out hb); replace BK378 := sA (blkb BK378.out hb); replace HB := bst HB hb; (try clear hb); (try clear ho0)))
  go_ret
  exact ⟨_, eW_, by (with_reducible repeat (first | apply Kd.R_alloc | apply Kd.R_drewN | apply Kd.R_drew)); exact HO382.out, hbw HB.out⟩
 ·rw [if_neg c4] at H
  have c4b0 : (t379 == 0) = false := beq_eq_false_iff_ne.mpr c4; have c4b1 : (t379 != 0) = true := bne_iff_ne.mpr c4; obtain rfl := Option.some.inj H
  go_enter Try.func15, Try.ntmps15
  go_wp2_with (first | ((with_reducible refine gate_dst (N := 2) rfl ?_); refine boxK 2 #[.string a0_0, .int .i64 a0_1, .bool a0_2] 23 ?_; intro gb377 hg w13 hbox hb; have BK377 := sA hbox; have GW377 := bsz HB hg; have GE377 := bsz HB hg; replace HB := bst HB hb; clear hb hbox hg) | ((with_reducible refine gate_dst (N := 3) rfl ?_); refine boxK 3 #[.int .i64 a1_0, .int .i64 a1_1, .int .i64 a1_2, .int .i64 a1_3, .int .i64 a1_4, .int .i64 a1_5, .int .i64 a1_6, .string a1_7] 27 ?_; intro gb378 hg w14 hbox hb; have BK378 := sA hbox; have GW378 := bsz HB hg; have GE378 := bsz HB hg; have NB377_378 := bnl BK377 hg; have NB378_377 := bng BK377 hg; replace BK377 := sA (blkb BK377.out hb); replace HB := bst HB hb; clear hb hbox hg; have hnb15 := NB377_378.out; have hnc15 := NB378_377.out; obtain ⟨_,_,_,_,_,_⟩ := cQ3 BK377) | ((with_reducible refine gate_callee (f := 22) rfl ?_); refine goesK (some 6) Try.func22 #[.agg #[.string a0_0, .int .i64 a0_1, .bool a0_2]] ?_; (with_reducible refine (signalbenchref21_Check.calls k a0_0 a0_1 a0_2 t379 _ A3.out).mono ?_); rintro e w17 ⟨rfl, hb⟩; refine ⟨_, rfl, ?_⟩; replace BK377 := sA (blkb BK377.out hb); replace BK378 := sA (blkb BK378.out hb); replace HB := bst HB hb; (try clear hb)))
  go_ret
  exact ⟨_, eW_, by first | exact Kd.R_nil _ _ _ _ _ | exact Kd.N_nil _ _ _ _ _ | exact Kd.V_nil _ _ _ _ _ | exact Kd.Q_nil _ _ _ _ _ | exact Kd.S_nil _ _ _ _ _, hbw HB.out⟩

/-! ### signalbenchref21_Decode: function 17 -/
def signalbenchref21_Decode.l0 : Nat → List (S32) → List (S32) → Int → ByteArray → Int → Bool → Int → Int → Int → Int → Int → Int → Int → ByteArray → Option ((List (S32)))
 | 0, _, _, _, _, _, _, _, _, _, _, _, _, _, _ => none
 | k + 1, x1, x5, x7, x384000, x384001, x384002, x396000, x396001, x396002, x396003, x396004, x396005, x396006, x396007 => if x7 < (x1.length : Int) then (if 0 ≤ x7 then ((signalbenchref21_Step.f k x384000 x384001 x384002 x396000 x396001 x396002 x396003 x396004 x396005 x396006 x396007 ((rd_T32 x1 x7).f0) ((rd_T32 x1 x7).f1) ((rd_T32 x1 x7).f2) ((rd_T32 x1 x7).f3) ((rd_T32 x1 x7).f4) ((rd_T32 x1 x7).f5) ((rd_T32 x1 x7).f6)).bind fun bt397 => (if x5.length + bt397.2.2.2.2.2.2.2.2.length < 2199023255552 then (signalbenchref21_Decode.l0 k x1 (x5 ++ bt397.2.2.2.2.2.2.2.2) (wrap64 (x7 + 1)) x384000 x384001 x384002 bt397.1 bt397.2.1 bt397.2.2.1 bt397.2.2.2.1 bt397.2.2.2.2.1 bt397.2.2.2.2.2.1 bt397.2.2.2.2.2.2.1 bt397.2.2.2.2.2.2.2.1) else (none))) else (none)) else ((signalbenchref21_End.f k x384000 x384001 x384002 x396000 x396001 x396002 x396003 x396004 x396005 x396006 x396007).bind fun t412 => (if x5.length + t412.length < 2199023255552 then (some (x5 ++ t412)) else (none)))
def signalbenchref21_Decode.f (k : Nat) (a0_0 : ByteArray) (a0_1 : Int) (a0_2 : Bool) (l1 : List (S32)) : Option ((List (S32))) := (signalbenchref21_Start.f a0_0 a0_1 a0_2).bind fun bt387 => (signalbenchref21_Decode.l0 k l1 (([] : List (S32))) 0 a0_0 a0_1 a0_2 bt387.1 bt387.2.1 bt387.2.2.1 bt387.2.2.2.1 bt387.2.2.2.2.1 bt387.2.2.2.2.2.1 bt387.2.2.2.2.2.2.1 bt387.2.2.2.2.2.2.2)
theorem signalbenchref21_Decode.mono_l : ∀ k, (∀ y0 y1 y2 y3 y4 y5 y6 y7 y8 y9 y10 y11 y12 y13, LeO (signalbenchref21_Decode.l0 k y0 y1 y2 y3 y4 y5 y6 y7 y8 y9 y10 y11 y12 y13) (signalbenchref21_Decode.l0 (k + 1) y0 y1 y2 y3 y4 y5 y6 y7 y8 y9 y10 y11 y12 y13))
 | 0 => fun _ _ _ _ _ _ _ _ _ _ _ _ _ _ r h => by simp [signalbenchref21_Decode.l0] at h
 | k + 1 => by
  have ih0 := signalbenchref21_Decode.mono_l k
  ·intro y0 y1 y2 y3 y4 y5 y6 y7 y8 y9 y10 y11 y12 y13
   unfold signalbenchref21_Decode.l0
   repeat' first
   | (with_reducible exact ih0 _ _ _ _ _ _ _ _ _ _ _ _ _ _)
   | (with_reducible exact signalbenchref21_End.mono _ _ _ _ _ _ _ _ _ _ _ _)
   | (with_reducible exact signalbenchref21_Step.mono _ _ _ _ _ _ _ _ _ _ _ _ _ _ _ _ _ _ _)
   | (with_reducible exact LeO.refl _)
   | (with_reducible exact LeO.none _)
   | (with_reducible refine LeO.ite ?_ ?_)
   | (with_reducible refine LeO.bind ?_ (fun _ => ?_))
   | exact ih0 _ _ _ _ _ _ _ _ _ _ _ _ _ _
   | exact signalbenchref21_End.mono _ _ _ _ _ _ _ _ _ _ _ _
   | exact signalbenchref21_Step.mono _ _ _ _ _ _ _ _ _ _ _ _ _ _ _ _ _ _ _
   | exact LeO.none _
   | refine LeO.ite ?_ ?_
   | refine LeO.bind ?_ (fun _ => ?_)
theorem signalbenchref21_Decode.mono : ∀ a0 a1 a2 a3 k, LeO (signalbenchref21_Decode.f k a0 a1 a2 a3) (signalbenchref21_Decode.f (k + 1) a0 a1 a2 a3) := by
 intro a0 a1 a2 a3 k; have ih0 := signalbenchref21_Decode.mono_l k
 unfold signalbenchref21_Decode.f
 repeat' first
   | (with_reducible exact ih0 _ _ _ _ _ _ _ _ _ _ _ _ _ _)
   | (with_reducible exact signalbenchref21_End.mono _ _ _ _ _ _ _ _ _ _ _ _)
   | (with_reducible exact signalbenchref21_Step.mono _ _ _ _ _ _ _ _ _ _ _ _ _ _ _ _ _ _ _)
   | (with_reducible exact LeO.refl _)
   | (with_reducible exact LeO.none _)
   | (with_reducible refine LeO.ite ?_ ?_)
   | (with_reducible refine LeO.bind ?_ (fun _ => ?_))
   | exact ih0 _ _ _ _ _ _ _ _ _ _ _ _ _ _
   | exact signalbenchref21_End.mono _ _ _ _ _ _ _ _ _ _ _ _
   | exact signalbenchref21_Step.mono _ _ _ _ _ _ _ _ _ _ _ _ _ _ _ _ _ _ _
   | exact LeO.none _
   | refine LeO.ite ?_ ?_
   | refine LeO.bind ?_ (fun _ => ?_)
def signalbenchref21_Decode.T6 : Bool × List (List Nat × List Nat) := (true, [([], []), ([], []), ([], []), ([], []), ([2, 3], [2, 3]), ([4], [4]), ([0, 1, 5], [0, 1, 5]), ([6], [6]), ([7], [7]), ([7], [7]), ([], []), ([10, 8, 6, 0, 1, 2, 3, 4, 5, 6, 7, 8, 10], [8, 10]), ([9, 11, 0, 1, 2, 3, 4, 5, 6, 7, 8, 9, 10, 11], [9])])
def signalbenchref21_Decode.B6 : List Nat := [0, 0, 0, 0, 12, 28, 63, 127, 255, 255, 0, 1535, 4095]
theorem signalbenchref21_Decode.tab6 : rtab .any (opsOf Try.f17 6) = signalbenchref21_Decode.T6 := by kernel_rfl
theorem signalbenchref21_Decode.bits6 : waitsOk signalbenchref21_Decode.T6.2 signalbenchref21_Decode.B6 = true := by kernel_rfl
set_option maxHeartbeats 8000000 in
set_option maxRecDepth 100000 in
theorem signalbenchref21_Decode.calls (k : Nat) (a0_0 : ByteArray) (a0_1 : Int) (a0_2 : Bool) (A1 : Option Addr) (c1 : Nat) (l1 : List (S32)) (r : List (S32)) (w : World) (hr1 : Kd.C k32 w A1 l1.length l1) (hc1 : l1.length ≤ c1) (h : signalbenchref21_Decode.f k a0_0 a0_1 a0_2 l1 = some r) :
  Calls Try.prog 17 #[.agg #[.string a0_0, .int .i64 a0_1, .bool a0_2], .slice A1 l1.length c1] w fun e w' => ∃ v0_ : Value, e = .returned (v0_) ∧ Kd.R k32 32 w' w.heap.size (fun _ => True) v0_ r ∧ Below w.heap.size w w' := by
 have hu23 := Try.underlying23; have hu27 := Try.underlying27; have hu32 := Try.underlying32; have HR1 := sA hr1; have HC1 := sA hc1; clear hr1 hc1; have HB := sA (Below.refl w.heap.size w); have H : ((signalbenchref21_Start.f a0_0 a0_1 a0_2).bind fun bt387 => (signalbenchref21_Decode.l0 k l1 (([] : List (S32))) 0 a0_0 a0_1 a0_2 bt387.1 bt387.2.1 bt387.2.2.1 bt387.2.2.2.1 bt387.2.2.2.2.1 bt387.2.2.2.2.2.1 bt387.2.2.2.2.2.2.1 bt387.2.2.2.2.2.2.2)) = some r := h; clear h; obtain ⟨y384, hy384⟩ : ∃ y_ : List (S32), y_ = (([] : List (S32))) := ⟨_, rfl⟩
 replace H : ((signalbenchref21_Start.f a0_0 a0_1 a0_2).bind fun bt387 => (signalbenchref21_Decode.l0 k l1 y384 0 a0_0 a0_1 a0_2 bt387.1 bt387.2.1 bt387.2.2.1 bt387.2.2.2.1 bt387.2.2.2.2.1 bt387.2.2.2.2.2.1 bt387.2.2.2.2.2.2.1 bt387.2.2.2.2.2.2.2)) = some r := by first | (rw [hy384]; with_reducible exact H) | (have H2_ := (Option.bind_some _ _).symm.trans H; rw [hy384]; with_reducible exact H2_) | (have H2_ := (Option.bind_some _ _).symm.trans H; with_reducible exact H2_) | with_reducible exact H | (rw [hy384]; exact H) | exact H
 have Ny384 := sA hy384; clear hy384; replace H := Option.bind_eq_some_iff.mp H; obtain ⟨⟨t387, t388, t389, t390, t391, t392, t393, t394⟩, A30, H⟩ := H; replace H : (signalbenchref21_Decode.l0 k l1 y384 0 a0_0 a0_1 a0_2 t387 t388 t389 t390 t391 t392 t393 t394) = some r := H; have A3 := sA A30; clear A30; have H' := sA H; clear H
 go_enter Try.func17, Try.ntmps17
 go_wp2_with (first | ((with_reducible refine gate_dst (N := 2) rfl ?_); refine boxK 2 #[.string a0_0, .int .i64 a0_1, .bool a0_2] 23 ?_; intro gb383 hg w4 hbox hb; have BK383 := sA hbox; have GW383 := bsz HB hg; have GE383 := bsz HB hg; replace HB := bst HB hb; clear hb hbox hg) | ((with_reducible refine gate_dst (N := 10) rfl ?_); refine Kd.R_lit k32 _ 32 ?hg (N := 10) ?hd (xs := ([] : List (S32))) (inner := []) (ok := fun _ => True) (okp := fun _ => True) ?hr ?hp (fun _ hk => hk) trivial (Below.refl _ _) (Nat.le_refl _) (by simp) ?_; (case hd => rfl); (case hg => rfl); (case hr => first | (go_simp; done) | (go_simp; rfl)); (case hp => exact (Reps.none _ _)); intro v385 w5 ho6 hb hg_ hnew_; clear hg_ hnew_; (first | rw [← Ny384.out] at ho6 | (simp only [Int.reduceToNat] at ho6; rw [← Ny384.out] at ho6)); have HO386 := sA (Kd.R_lower ho6 (below_size (hbw HB.out))); replace BK383 := sA (blkb BK383.out hb); replace HB := bst HB hb; clear hb ho6; obtain ⟨hcz7_0,hcz7_1,hcz7_2,hfz7_0,hfz7_1,hfz7_2⟩ := cQ3 BK383) | ((with_reducible refine gate_callee (f := 10) rfl ?_); refine goesK (some 12) Try.func10 #[.agg #[.string a0_0, .int .i64 a0_1, .bool a0_2]] ?_; (with_reducible refine (signalbenchref21_Start.calls a0_0 a0_1 a0_2 t387 t388 t389 t390 t391 t392 t393 t394 _ A3.out).mono ?_); rintro e w8 ⟨rfl, hb⟩; refine ⟨_, rfl, ?_⟩; replace HO386 := sA (Kd.R_below (rkw HO386.out) hb); replace BK383 := sA (blkb BK383.out hb); replace HB := bst HB hb; (try clear hb); (try clear hk)) | ((with_reducible refine gate_dst (N := 6) rfl ?_); refine boxK 6 #[.int .i64 0, .int .i64 0, .int .i64 0, .int .i64 0, .int .i64 0, .int .i64 0, .int .i64 0, .string (⟨#[]⟩ : ByteArray)] 27 ?_; intro gb395 hg w9 hbox hb; have BK395 := sA hbox; have GW395 := bsz HB hg; have GE395 := bsz HB hg; have NB383_395 := bnl BK383 hg; have NB395_383 := bng BK383 hg; replace HO386 := sA (Kd.R_below (rkw HO386.out) hb); replace BK383 := sA (blkb BK383.out hb); replace HB := bst HB hb; clear hb hbox hg; have hnb10 := NB395_383.out; have hnc10 := NB383_395.out; obtain ⟨hcz11_0,hcz11_1,hcz11_2,hcz11_3,hcz11_4,hcz11_5,hcz11_6,hcz11_7,hfz11_0,hfz11_1,hfz11_2,hfz11_3,hfz11_4,hfz11_5,hfz11_6,hfz11_7⟩ := cQ8 BK395))
 go_loopg [5, 7] k (fun kq v5 v7 w' => ∃ (x5_1 : List (S32)) (x7_1 : Int) (x396000_1 : Int) (x396001_1 : Int) (x396002_1 : Int) (x396003_1 : Int) (x396004_1 : Int) (x396005_1 : Int) (x396006_1 : Int) (x396007_1 : ByteArray), v7 = .int .i64 x7_1 ∧ Aside0 (signalbenchref21_Decode.l0 kq l1 x5_1 x7_1 a0_0 a0_1 a0_2 x396000_1 x396001_1 x396002_1 x396003_1 x396004_1 x396005_1 x396006_1 x396007_1 = some r) ∧ Aside0 (kq ≤ k) ∧ Aside0 (Kd.R k32 32 w' w.heap.size (fun _ => True) v5 x5_1) ∧ Aside0 (w'.heap[gb383]? = some (.cells #[.string a0_0, .int .i64 a0_1, .bool a0_2] 23 (0, 0))) ∧ Aside0 (w'.heap[gb395]? = some (.cells #[.int .i64 x396000_1, .int .i64 x396001_1, .int .i64 x396002_1, .int .i64 x396003_1, .int .i64 x396004_1, .int .i64 x396005_1, .int .i64 x396006_1, .string x396007_1] 27 (0, 0))) ∧ Aside0 (Below w.heap.size w w'))
 case atStart => exact ⟨(y384), (0), (t387), (t388), (t389), (t390), (t391), (t392), (t393), (t394), (by first | rfl | (simp; done) | (simp [*]; done)), H', ⟨Nat.le_refl _⟩, ⟨by (with_reducible repeat (first | apply Kd.R_alloc | apply Kd.R_drewN | apply Kd.R_drew)); exact Kd.R_mono (Kd.R_far (p := ⟨gb395, 7, none⟩) (Kd.R_far (p := ⟨gb395, 6, none⟩) (Kd.R_far (p := ⟨gb395, 5, none⟩) (Kd.R_far (p := ⟨gb395, 4, none⟩) (Kd.R_far (p := ⟨gb395, 3, none⟩) (Kd.R_far (p := ⟨gb395, 2, none⟩) (Kd.R_far (p := ⟨gb395, 1, none⟩) (Kd.R_far (p := ⟨gb395, 0, none⟩) (Kd.R_types HO386.out BK395.out (by decide)) (fun _ hk => hk.2) (.int .i64 t387)) (fun _ hk => hk.2) (.int .i64 t388)) (fun _ hk => hk.2) (.int .i64 t389)) (fun _ hk => hk.2) (.int .i64 t390)) (fun _ hk => hk.2) (.int .i64 t391)) (fun _ hk => hk.2) (.int .i64 t392)) (fun _ hk => hk.2) (.int .i64 t393)) (fun _ hk => hk.2) (.string t394)) (fun _ hk => trivial)⟩, ⟨by (repeat (with_reducible first | refine blk_far ?_ NB383_395.out _ | refine blk_drewN ?_ _ | refine blk_drew ?_ | refine blk_alloc ?_ _)); exact BK383.out⟩, ⟨by (with_reducible repeat (first | refine blk_drewN ?_ _ | refine blk_drew ?_ | refine blk_alloc ?_ _)); refine blk_put8 (.int .i64 0) (.int .i64 0) (.int .i64 0) (.int .i64 0) (.int .i64 0) (.int .i64 0) (.int .i64 0) (.string (⟨#[]⟩ : ByteArray)) ?_; (with_reducible repeat (first | refine blk_drewN ?_ _ | refine blk_drew ?_ | refine blk_alloc ?_ _)); exact BK395.out⟩, ⟨hbw HB.out⟩⟩
 case round =>
  clear H'
  try clear c1
  try clear hcz11_0
  try clear hcz11_1
  try clear hcz11_2
  try clear hcz11_3
  try clear hcz11_4
  try clear hcz11_5
  try clear hcz11_6
  try clear hcz11_7
  try clear hcz7_0
  try clear hcz7_1
  try clear hcz7_2
  try clear hfz11_0
  try clear hfz11_1
  try clear hfz11_2
  try clear hfz11_3
  try clear hfz11_4
  try clear hfz11_5
  try clear hfz11_6
  try clear hfz11_7
  try clear hfz7_0
  try clear hfz7_1
  try clear hfz7_2
  obtain ⟨x5_1, x7_1, x396000_1, x396001_1, x396002_1, x396003_1, x396004_1, x396005_1, x396006_1, x396007_1, rfl, HA, HK1, HO_5, BK383, BK395, HB⟩ := hrel
  cases gk with
  | zero => exact absurd HA.out (by simp [signalbenchref21_Decode.l0])
  | succ k1 =>
   have H := HA.out; clear HA
   simp only [signalbenchref21_Decode.l0] at H
   by_cases c12 : x7_1 < (l1.length : Int)
   ·rw [if_pos c12] at H
    have c12b0 : decide (x7_1 < (l1.length : Int)) = true := decide_eq_true c12; clear c12
    by_cases c13 : 0 ≤ x7_1
    ·rw [if_pos c13] at H
     have c13b0 : decide (0 ≤ x7_1) = true := decide_eq_true c13; clear c13; replace H := Option.bind_eq_some_iff.mp H; obtain ⟨⟨t397, t398, t399, t400, t401, t402, t403, t404, t405⟩, A140, H⟩ := H; replace H : (if x5_1.length + t405.length < 2199023255552 then (signalbenchref21_Decode.l0 k1 l1 (x5_1 ++ t405) (wrap64 (x7_1 + 1)) a0_0 a0_1 a0_2 t397 t398 t399 t400 t401 t402 t403 t404) else (none)) = some r := H; have A14 := sA A140; clear A140
     by_cases c15 : x5_1.length + t405.length < 2199023255552
     ·rw [if_pos c15] at H
      have LMc15 := sA c15; clear c15; obtain ⟨y409, hy409⟩ : ∃ y_ : List (S32), y_ = (x5_1 ++ t405) := ⟨_, rfl⟩
      replace H : (signalbenchref21_Decode.l0 k1 l1 y409 (wrap64 (x7_1 + 1)) a0_0 a0_1 a0_2 t397 t398 t399 t400 t401 t402 t403 t404) = some r := by first | (rw [hy409]; with_reducible exact H) | (have H2_ := (Option.bind_some _ _).symm.trans H; rw [hy409]; with_reducible exact H2_) | (have H2_ := (Option.bind_some _ _).symm.trans H; with_reducible exact H2_) | with_reducible exact H | (rw [hy409]; exact H) | exact H
      have Ny409 := sA hy409; clear hy409; have H' := sA H; clear H
      try go_wp2
      replace HO_5 := sA (Kd.R_drew HO_5.out); replace BK383 := sA (blk_drew BK383.out); replace BK395 := sA (blk_drew BK395.out); replace HB := sA (below_drew1 HB.out); have p396 : 0 ≤ (x7_1 : Int) := of_decide_eq_true (by first | (with_reducible assumption) | assumption); have q396 : x7_1 < (l1.length : Int) := of_decide_eq_true (by first | (with_reducible assumption) | assumption); obtain ⟨ad396, e396, hx396_0, hx396_1, hx396_2, hx396_3, hx396_4, hx396_5, hx396_6⟩ := at_T32 HR1.out x7_1 p396 q396; have hw396_6 := hx396_6; have hw396_5 := hx396_5; have hw396_4 := hx396_4; have hw396_3 := hx396_3; have hw396_2 := hx396_2; have hw396_1 := hx396_1; have hw396_0 := hx396_0
      cases e396
      replace hx396_0 := hbc HB hx396_0; replace hx396_1 := hbc HB hx396_1; replace hx396_2 := hbc HB hx396_2; replace hx396_3 := hbc HB hx396_3; replace hx396_4 := hbc HB hx396_4; replace hx396_5 := hbc HB hx396_5; replace hx396_6 := hbc HB hx396_6; replace p396 := eq_true p396; replace q396 := eq_true q396; refine start_ (n := 13) (S := fun w' => w'.cell? ⟨gb383, 0, none⟩ = some (.string a0_0) ∧ w'.cell? ⟨gb383, 1, none⟩ = some (.int .i64 a0_1) ∧ w'.cell? ⟨gb383, 2, none⟩ = some (.bool a0_2) ∧ w'.cell? ⟨gb395, 0, none⟩ = some (.int .i64 x396000_1) ∧ w'.cell? ⟨gb395, 1, none⟩ = some (.int .i64 x396001_1) ∧ w'.cell? ⟨gb395, 2, none⟩ = some (.int .i64 x396002_1) ∧ w'.cell? ⟨gb395, 3, none⟩ = some (.int .i64 x396003_1) ∧ w'.cell? ⟨gb395, 4, none⟩ = some (.int .i64 x396004_1) ∧ w'.cell? ⟨gb395, 5, none⟩ = some (.int .i64 x396005_1) ∧ w'.cell? ⟨gb395, 6, none⟩ = some (.int .i64 x396006_1) ∧ w'.cell? ⟨gb395, 7, none⟩ = some (.string x396007_1) ∧ w'.cell? (ad396.add ((x7_1).toNat * 7)) = some (.int .i64 ((rd_T32 l1 x7_1).f0)) ∧ w'.cell? ⟨(ad396.add ((x7_1).toNat * 7)).block, (ad396.add ((x7_1).toNat * 7)).off + 1, none⟩ = some (.int .i64 ((rd_T32 l1 x7_1).f1)) ∧ w'.cell? ⟨(ad396.add ((x7_1).toNat * 7)).block, (ad396.add ((x7_1).toNat * 7)).off + 2, none⟩ = some (.int .i64 ((rd_T32 l1 x7_1).f2)) ∧ w'.cell? ⟨(ad396.add ((x7_1).toNat * 7)).block, (ad396.add ((x7_1).toNat * 7)).off + 3, none⟩ = some (.int .i64 ((rd_T32 l1 x7_1).f3)) ∧ w'.cell? ⟨(ad396.add ((x7_1).toNat * 7)).block, (ad396.add ((x7_1).toNat * 7)).off + 4, none⟩ = some (.int .i64 ((rd_T32 l1 x7_1).f4)) ∧ w'.cell? ⟨(ad396.add ((x7_1).toNat * 7)).block, (ad396.add ((x7_1).toNat * 7)).off + 5, none⟩ = some (.string ((rd_T32 l1 x7_1).f5)) ∧ w'.cell? ⟨(ad396.add ((x7_1).toNat * 7)).block, (ad396.add ((x7_1).toNat * 7)).off + 6, none⟩ = some (.int .i64 ((rd_T32 l1 x7_1).f6))) (ds := []) #[N_,N_,N_,N_,N_,N_,N_,N_,N_,N_,N_,N_,N_] (by kernel_rfl) rfl rfl ⟨ck BK383 0, ck BK383 1, ck BK383 2, ck BK395 0, ck BK395 1, ck BK395 2, ck BK395 3, ck BK395 4, ck BK395 5, ck BK395 6, ck BK395 7, hbc HB hw396_0, hbc HB hw396_1, hbc HB hw396_2, hbc HB hw396_3, hbc HB hw396_4, hbc HB hw396_5, hbc HB hw396_6⟩ (fun hHeld => ?_); refine with_tabW signalbenchref21_Decode.tab6 signalbenchref21_Decode.bits6 (fun HT_ HW_ => ?_)
      generalize wr.drew = w16 at HO_5 BK383 BK395 HB hx396_0 hx396_1 hx396_2 hx396_3 hx396_4 hx396_5 hx396_6 hHeld ⊢
      refine pstep 2 (some 22) #[N_,N_,Y_,N_,N_,N_,N_,N_,N_,N_,N_,N_,N_] HT_.out ?_; refine pstep 3 (some 23) #[N_,N_,Y_,Y_,N_,N_,N_,N_,N_,N_,N_,N_,N_] HT_.out ?_; refine pstep 4 (some 24) #[N_,N_,Y_,Y_,Y_,N_,N_,N_,N_,N_,N_,N_,N_] HT_.out ?_; refine take_ (i := 0) (N := some 20) (v := ?_) (a' := ?_) #[Y_,N_,Y_,Y_,Y_,N_,N_,N_,N_,N_,N_,N_,N_] rfl rfl (take_ofW HT_.out HW_.out (by kernel_rfl)) (fun _ _ _ h => h) (Or.inl ⟨by rfl, ?_⟩) hHeld ?_ ?_; rotate_left
      ·rintro w' ⟨s0, s1, s2, s3, s4, s5, s6, s7, s8, s9, s10, s11, s12, s13, s14, s15, s16, s17⟩
       go_simp
       with_reducible rfl
      rotate_left
      ·simp only [Act.put, nrm]
       rfl
      refine take_ (i := 1) (N := some 21) (v := ?_) (a' := ?_) #[Y_,Y_,Y_,Y_,Y_,N_,N_,N_,N_,N_,N_,N_,N_] rfl rfl (take_ofW HT_.out HW_.out (by kernel_rfl)) (fun _ _ _ h => h) (Or.inl ⟨by rfl, ?_⟩) hHeld ?_ ?_; rotate_left
      ·rintro w' ⟨s0, s1, s2, s3, s4, s5, s6, s7, s8, s9, s10, s11, s12, s13, s14, s15, s16, s17⟩
       go_simp
       with_reducible rfl
      rotate_left
      ·simp only [Act.put, nrm]
       rfl
      refine take_ (i := 5) (N := some 25) (v := ?_) (a' := ?_) #[Y_,Y_,Y_,Y_,Y_,Y_,N_,N_,N_,N_,N_,N_,N_] rfl rfl (take_ofW HT_.out HW_.out (by kernel_rfl)) (fun _ _ _ h => h) (Or.inl ⟨by rfl, ?_⟩) hHeld ?_ ?_; rotate_left
      ·rintro w' ⟨s0, s1, s2, s3, s4, s5, s6, s7, s8, s9, s10, s11, s12, s13, s14, s15, s16, s17⟩
       go_simp
       with_reducible rfl
      rotate_left
      ·simp only [Act.put, nrm]
       rfl
      refine join_ (σ := Value × Nat) 2 #[Y_,Y_,Y_,Y_,Y_,Y_,Y_,Y_,Y_,Y_,Y_,N_,N_] (fun s_ => [(26, .tuple #[.agg #[.int .i64 t397, .int .i64 t398, .int .i64 t399, .int .i64 t400, .int .i64 t401, .int .i64 t402, .int .i64 t403, .string t404], s_.1]), (8, .pointer (some ⟨s_.2, 0, none⟩)), (19, .tuple #[.agg #[.int .i64 t397, .int .i64 t398, .int .i64 t399, .int .i64 t400, .int .i64 t401, .int .i64 t402, .int .i64 t403, .string t404], s_.1]), (27, .agg #[.int .i64 t397, .int .i64 t398, .int .i64 t399, .int .i64 t400, .int .i64 t401, .int .i64 t402, .int .i64 t403, .string t404]), (28, s_.1)]) (fun s_ w' => (w'.cell? ⟨gb383, 0, none⟩ = some (.string a0_0) ∧ w'.cell? ⟨gb383, 1, none⟩ = some (.int .i64 a0_1) ∧ w'.cell? ⟨gb383, 2, none⟩ = some (.bool a0_2) ∧ w'.cell? ⟨gb395, 0, none⟩ = some (.int .i64 x396000_1) ∧ w'.cell? ⟨gb395, 1, none⟩ = some (.int .i64 x396001_1) ∧ w'.cell? ⟨gb395, 2, none⟩ = some (.int .i64 x396002_1) ∧ w'.cell? ⟨gb395, 3, none⟩ = some (.int .i64 x396003_1) ∧ w'.cell? ⟨gb395, 4, none⟩ = some (.int .i64 x396004_1) ∧ w'.cell? ⟨gb395, 5, none⟩ = some (.int .i64 x396005_1) ∧ w'.cell? ⟨gb395, 6, none⟩ = some (.int .i64 x396006_1) ∧ w'.cell? ⟨gb395, 7, none⟩ = some (.string x396007_1) ∧ w'.cell? (ad396.add ((x7_1).toNat * 7)) = some (.int .i64 ((rd_T32 l1 x7_1).f0)) ∧ w'.cell? ⟨(ad396.add ((x7_1).toNat * 7)).block, (ad396.add ((x7_1).toNat * 7)).off + 1, none⟩ = some (.int .i64 ((rd_T32 l1 x7_1).f1)) ∧ w'.cell? ⟨(ad396.add ((x7_1).toNat * 7)).block, (ad396.add ((x7_1).toNat * 7)).off + 2, none⟩ = some (.int .i64 ((rd_T32 l1 x7_1).f2)) ∧ w'.cell? ⟨(ad396.add ((x7_1).toNat * 7)).block, (ad396.add ((x7_1).toNat * 7)).off + 3, none⟩ = some (.int .i64 ((rd_T32 l1 x7_1).f3)) ∧ w'.cell? ⟨(ad396.add ((x7_1).toNat * 7)).block, (ad396.add ((x7_1).toNat * 7)).off + 4, none⟩ = some (.int .i64 ((rd_T32 l1 x7_1).f4)) ∧ w'.cell? ⟨(ad396.add ((x7_1).toNat * 7)).block, (ad396.add ((x7_1).toNat * 7)).off + 5, none⟩ = some (.string ((rd_T32 l1 x7_1).f5)) ∧ w'.cell? ⟨(ad396.add ((x7_1).toNat * 7)).block, (ad396.add ((x7_1).toNat * 7)).off + 6, none⟩ = some (.int .i64 ((rd_T32 l1 x7_1).f6))) ∧ (Kd.R k32 32 w' w.heap.size (fun k_ => some k_ ≠ (u5 : Value).ownBlock) s_.1 t405) ∧ (Kd.R k32 32 w' w.heap.size (fun k_ => some k_ ≠ (s_.1 : Value).ownBlock) u5 x5_1) ∧ (w'.heap[gb383]? = some (.cells #[.string a0_0, .int .i64 a0_1, .bool a0_2] 23 (0, 0))) ∧ (w'.heap[gb395]? = some (.cells #[.int .i64 x396000_1, .int .i64 x396001_1, .int .i64 x396002_1, .int .i64 x396003_1, .int .i64 x396004_1, .int .i64 x396005_1, .int .i64 x396006_1, .string x396007_1] 27 (0, 0))) ∧ (w'.heap[s_.2]? = some (.cells #[.int .i64 0, .int .i64 0, .int .i64 0, .int .i64 0, .int .i64 0, .int .i64 0, .int .i64 0, .string (⟨#[]⟩ : ByteArray)] 27 (0, 0))) ∧ (w.heap.size ≤ s_.2) ∧ (w.heap.size ≤ s_.2) ∧ (gb383 ≠ s_.2) ∧ (s_.2 ≠ gb383) ∧ (gb395 ≠ s_.2) ∧ (s_.2 ≠ gb395) ∧ (Below w.heap.size w w')) ?_ ?_; rotate_left
      ·intro hCont
       refine two_ (i := 6) (j := 10) (Ni := some 26) (Nj := some 8) #[Y_,Y_,Y_,Y_,Y_,Y_,Y_,N_,N_,N_,N_,N_,N_] #[Y_,Y_,Y_,Y_,Y_,Y_,N_,N_,N_,N_,Y_,N_,N_] rfl rfl rfl rfl (two_of HT_.out (by kernel_rfl)) (by decide) (by decide) (fun K hK => ?_) (fun K hK => ?_)
       ·skip
        refine goesM Try.func12 #[.agg #[.string a0_0, .int .i64 a0_1, .bool a0_2], .agg #[.int .i64 x396000_1, .int .i64 x396001_1, .int .i64 x396002_1, .int .i64 x396003_1, .int .i64 x396004_1, .int .i64 x396005_1, .int .i64 x396006_1, .string x396007_1], .agg #[.int .i64 ((rd_T32 l1 x7_1).f0), .int .i64 ((rd_T32 l1 x7_1).f1), .int .i64 ((rd_T32 l1 x7_1).f2), .int .i64 ((rd_T32 l1 x7_1).f3), .int .i64 ((rd_T32 l1 x7_1).f4), .string ((rd_T32 l1 x7_1).f5), .int .i64 ((rd_T32 l1 x7_1).f6)]] ?_; (with_reducible refine (signalbenchref21_Step.calls k1 a0_0 a0_1 a0_2 x396000_1 x396001_1 x396002_1 x396003_1 x396004_1 x396005_1 x396006_1 x396007_1 ((rd_T32 l1 x7_1).f0) ((rd_T32 l1 x7_1).f1) ((rd_T32 l1 x7_1).f2) ((rd_T32 l1 x7_1).f3) ((rd_T32 l1 x7_1).f4) ((rd_T32 l1 x7_1).f5) ((rd_T32 l1 x7_1).f6) t397 t398 t399 t400 t401 t402 t403 t404 t405 _ A14.out).mono ?_); rintro e w17 ⟨v406, rfl, ho0, hb⟩; refine ⟨_, rfl, ?_⟩; have HO407 := sA (Kd.R_lower (Kd.R_new' ho0 (Kd.R_lt (rkw HO_5.out))) (below_size (hbw HB.out))); replace HO_5 := sA (Kd.R_elder' (rkw HO_5.out) (Kd.R_base ho0) hb); replace BK383 := bkB BK383 hb; replace BK395 := bkB BK395 hb; replace HB := bst HB hb; (try clear hb); (try clear ho0); refine hK.out _ _ ⟨ck BK383 0, ck BK383 1, ck BK383 2, ck BK395 0, ck BK395 1, ck BK395 2, ck BK395 3, ck BK395 4, ck BK395 5, ck BK395 6, ck BK395 7, hbc HB hw396_0, hbc HB hw396_1, hbc HB hw396_2, hbc HB hw396_3, hbc HB hw396_4, hbc HB hw396_5, hbc HB hw396_6⟩ (fun hHeld => ?_); clear hK K; refine norm_ (a' := ?_) ?_ ?_; rotate_left
        ·show Act.put _ (some 26) _ = _
         simp only [Act.put, nrm]
         rfl
        refine pstep 7 (some 19) #[Y_,Y_,Y_,Y_,Y_,Y_,Y_,Y_,N_,N_,N_,N_,N_] HT_.out ?_; refine pstep 8 (some 27) #[Y_,Y_,Y_,Y_,Y_,Y_,Y_,Y_,Y_,N_,N_,N_,N_] HT_.out ?_; refine pstep 9 (some 28) #[Y_,Y_,Y_,Y_,Y_,Y_,Y_,Y_,Y_,Y_,N_,N_,N_] HT_.out ?_; refine one_ (i := 10) (N := some 8) #[Y_,Y_,Y_,Y_,Y_,Y_,Y_,Y_,Y_,Y_,Y_,N_,N_] rfl rfl (one_of HT_.out (by kernel_rfl)) (by decide) (fun K hK => ?_); refine box_step ?hg (N := 8) ?hd (cs := #[.int .i64 0, .int .i64 0, .int .i64 0, .int .i64 0, .int .i64 0, .int .i64 0, .int .i64 0, .string (⟨#[]⟩ : ByteArray)]) (t := 27) ?hr ?_; (case hd => rfl); (case hg => rfl); (case hr => first | (go_simp; done) | (go_simp; rfl)); intro gb408 hg w18 hbox hb; have BK408 := sA hbox; have GW408 := bsz HB hg; have GE408 := bsz HB hg; have NB383_408 := bnl BK383 hg; have NB408_383 := bng BK383 hg; have NB395_408 := bnl BK395 hg; have NB408_395 := bng BK395 hg; replace HO_5 := sA (Kd.R_below (rkw HO_5.out) hb); replace HO407 := sA (Kd.R_below (rkw HO407.out) hb); replace BK383 := bkB BK383 hb; replace BK395 := bkB BK395 hb; replace HB := bst HB hb; clear hb hbox hg; refine hK.out _ _ ⟨ck BK383 0, ck BK383 1, ck BK383 2, ck BK395 0, ck BK395 1, ck BK395 2, ck BK395 3, ck BK395 4, ck BK395 5, ck BK395 6, ck BK395 7, hbc HB hw396_0, hbc HB hw396_1, hbc HB hw396_2, hbc HB hw396_3, hbc HB hw396_4, hbc HB hw396_5, hbc HB hw396_6⟩ (fun hHeld => ?_); clear hK K; refine norm_ (a' := ?_) ?_ ?_; rotate_left
        ·show Act.put _ (some 8) _ = _
         simp only [Act.put, nrm]
         rfl
        exact norm_ pb (hCont (v406, gb408) _ ⟨hHeld, (by (with_reducible repeat (first | apply Kd.R_alloc | apply Kd.R_drewN | apply Kd.R_drew)); exact Kd.R_mono HO407.out (fun _ hk => hk.2)), (by (with_reducible repeat (first | apply Kd.R_alloc | apply Kd.R_drewN | apply Kd.R_drew)); exact Kd.R_mono HO_5.out (fun _ hk => hk.2)), (bkw BK383.out), (bkw BK395.out), (bkw BK408.out), GW408.out, GE408.out, NB383_408.out, NB408_383.out, NB395_408.out, NB408_395.out, (hbw HB.out)⟩)
       ·skip
        refine box_step ?hg (N := 8) ?hd (cs := #[.int .i64 0, .int .i64 0, .int .i64 0, .int .i64 0, .int .i64 0, .int .i64 0, .int .i64 0, .string (⟨#[]⟩ : ByteArray)]) (t := 27) ?hr ?_; (case hd => rfl); (case hg => rfl); (case hr => first | (go_simp; done) | (go_simp; rfl)); intro gb408 hg w17 hbox hb; have BK408 := sA hbox; have GW408 := bsz HB hg; have GE408 := bsz HB hg; have NB383_408 := bnl BK383 hg; have NB408_383 := bng BK383 hg; have NB395_408 := bnl BK395 hg; have NB408_395 := bng BK395 hg; replace HO_5 := sA (Kd.R_below (rkw HO_5.out) hb); replace BK383 := bkB BK383 hb; replace BK395 := bkB BK395 hb; replace HB := bst HB hb; clear hb hbox hg; refine hK.out _ _ ⟨ck BK383 0, ck BK383 1, ck BK383 2, ck BK395 0, ck BK395 1, ck BK395 2, ck BK395 3, ck BK395 4, ck BK395 5, ck BK395 6, ck BK395 7, hbc HB hw396_0, hbc HB hw396_1, hbc HB hw396_2, hbc HB hw396_3, hbc HB hw396_4, hbc HB hw396_5, hbc HB hw396_6⟩ (fun hHeld => ?_); clear hK K; refine norm_ (a' := ?_) ?_ ?_; rotate_left
        ·show Act.put _ (some 8) _ = _
         simp only [Act.put, nrm]
         rfl
        refine one_ (i := 6) (N := some 26) #[Y_,Y_,Y_,Y_,Y_,Y_,Y_,N_,N_,N_,Y_,N_,N_] rfl rfl (one_of HT_.out (by kernel_rfl)) (by decide) (fun K hK => ?_); refine goesM Try.func12 #[.agg #[.string a0_0, .int .i64 a0_1, .bool a0_2], .agg #[.int .i64 x396000_1, .int .i64 x396001_1, .int .i64 x396002_1, .int .i64 x396003_1, .int .i64 x396004_1, .int .i64 x396005_1, .int .i64 x396006_1, .string x396007_1], .agg #[.int .i64 ((rd_T32 l1 x7_1).f0), .int .i64 ((rd_T32 l1 x7_1).f1), .int .i64 ((rd_T32 l1 x7_1).f2), .int .i64 ((rd_T32 l1 x7_1).f3), .int .i64 ((rd_T32 l1 x7_1).f4), .string ((rd_T32 l1 x7_1).f5), .int .i64 ((rd_T32 l1 x7_1).f6)]] ?_; (with_reducible refine (signalbenchref21_Step.calls k1 a0_0 a0_1 a0_2 x396000_1 x396001_1 x396002_1 x396003_1 x396004_1 x396005_1 x396006_1 x396007_1 ((rd_T32 l1 x7_1).f0) ((rd_T32 l1 x7_1).f1) ((rd_T32 l1 x7_1).f2) ((rd_T32 l1 x7_1).f3) ((rd_T32 l1 x7_1).f4) ((rd_T32 l1 x7_1).f5) ((rd_T32 l1 x7_1).f6) t397 t398 t399 t400 t401 t402 t403 t404 t405 _ A14.out).mono ?_); rintro e w18 ⟨v406, rfl, ho0, hb⟩; refine ⟨_, rfl, ?_⟩; have HO407 := sA (Kd.R_lower (Kd.R_new' ho0 (Kd.R_lt (rkw HO_5.out))) (below_size (hbw HB.out))); replace HO_5 := sA (Kd.R_elder' (rkw HO_5.out) (Kd.R_base ho0) hb); replace BK383 := bkB BK383 hb; replace BK395 := bkB BK395 hb; replace BK408 := bkB BK408 hb; replace HB := bst HB hb; (try clear hb); (try clear ho0); refine hK.out _ _ ⟨ck BK383 0, ck BK383 1, ck BK383 2, ck BK395 0, ck BK395 1, ck BK395 2, ck BK395 3, ck BK395 4, ck BK395 5, ck BK395 6, ck BK395 7, hbc HB hw396_0, hbc HB hw396_1, hbc HB hw396_2, hbc HB hw396_3, hbc HB hw396_4, hbc HB hw396_5, hbc HB hw396_6⟩ (fun hHeld => ?_); clear hK K; refine norm_ (a' := ?_) ?_ ?_; rotate_left
        ·show Act.put _ (some 26) _ = _
         simp only [Act.put, nrm]
         rfl
        refine pstep 7 (some 19) #[Y_,Y_,Y_,Y_,Y_,Y_,Y_,Y_,N_,N_,Y_,N_,N_] HT_.out ?_; refine pstep 8 (some 27) #[Y_,Y_,Y_,Y_,Y_,Y_,Y_,Y_,Y_,N_,Y_,N_,N_] HT_.out ?_; refine pstep 9 (some 28) #[Y_,Y_,Y_,Y_,Y_,Y_,Y_,Y_,Y_,Y_,Y_,N_,N_] HT_.out ?_
        exact norm_ pb (hCont (v406, gb408) _ ⟨hHeld, (by (with_reducible repeat (first | apply Kd.R_alloc | apply Kd.R_drewN | apply Kd.R_drew)); exact Kd.R_mono HO407.out (fun _ hk => hk.2)), (by (with_reducible repeat (first | apply Kd.R_alloc | apply Kd.R_drewN | apply Kd.R_drew)); exact Kd.R_mono HO_5.out (fun _ hk => hk.2)), (bkw BK383.out), (bkw BK395.out), (bkw BK408.out), GW408.out, GE408.out, NB383_408.out, NB408_383.out, NB395_408.out, NB408_395.out, (hbw HB.out)⟩)
      rintro ⟨v406, gb408⟩ w19 ⟨hS_, h0_, h1_, h2_, h3_, h4_, h5_, h6_, h7_, h8_, h9_, h10_, h11_⟩; have n0_ : Aside0 (Kd.R k32 32 w19 w.heap.size (fun k_ => some k_ ≠ (u5 : Value).ownBlock) v406 t405) := ⟨h0_⟩; have n1_ : Aside0 (Kd.R k32 32 w19 w.heap.size (fun k_ => some k_ ≠ (v406 : Value).ownBlock) u5 x5_1) := ⟨h1_⟩; have n2_ : Aside0 (w19.heap[gb383]? = some (.cells #[.string a0_0, .int .i64 a0_1, .bool a0_2] 23 (0, 0))) := ⟨h2_⟩; have n3_ : Aside0 (w19.heap[gb395]? = some (.cells #[.int .i64 x396000_1, .int .i64 x396001_1, .int .i64 x396002_1, .int .i64 x396003_1, .int .i64 x396004_1, .int .i64 x396005_1, .int .i64 x396006_1, .string x396007_1] 27 (0, 0))) := ⟨h3_⟩; have n4_ : Aside0 (w19.heap[gb408]? = some (.cells #[.int .i64 0, .int .i64 0, .int .i64 0, .int .i64 0, .int .i64 0, .int .i64 0, .int .i64 0, .string (⟨#[]⟩ : ByteArray)] 27 (0, 0))) := ⟨h4_⟩; have n5_ : Aside0 (w.heap.size ≤ gb408) := ⟨h5_⟩; have n6_ : Aside0 (w.heap.size ≤ gb408) := ⟨h6_⟩; have n7_ : Aside0 (gb383 ≠ gb408) := ⟨h7_⟩; have n8_ : Aside0 (gb408 ≠ gb383) := ⟨h8_⟩; have n9_ : Aside0 (gb395 ≠ gb408) := ⟨h9_⟩; have n10_ : Aside0 (gb408 ≠ gb395) := ⟨h10_⟩; have n11_ : Aside0 (Below w.heap.size w w19) := ⟨h11_⟩; clear HO_5; clear BK383; clear BK395; clear HB; clear h0_ h1_ h2_ h3_ h4_ h5_ h6_ h7_ h8_ h9_ h10_ h11_; have HO407 := n0_; have HO_5 := n1_; have BK383 := n2_; have BK395 := n3_; have BK408 := n4_; have GW408 := n5_; have GE408 := n6_; have NB383_408 := n7_; have NB408_383 := n8_; have NB395_408 := n9_; have NB408_395 := n10_; have HB := n11_; clear n0_ n1_ n2_ n3_ n4_ n5_ n6_ n7_ n8_ n9_ n10_ n11_; have hHeld : w19.cell? ⟨gb383, 0, none⟩ = some (.string a0_0) ∧ w19.cell? ⟨gb383, 1, none⟩ = some (.int .i64 a0_1) ∧ w19.cell? ⟨gb383, 2, none⟩ = some (.bool a0_2) ∧ w19.cell? ⟨gb395, 0, none⟩ = some (.int .i64 x396000_1) ∧ w19.cell? ⟨gb395, 1, none⟩ = some (.int .i64 x396001_1) ∧ w19.cell? ⟨gb395, 2, none⟩ = some (.int .i64 x396002_1) ∧ w19.cell? ⟨gb395, 3, none⟩ = some (.int .i64 x396003_1) ∧ w19.cell? ⟨gb395, 4, none⟩ = some (.int .i64 x396004_1) ∧ w19.cell? ⟨gb395, 5, none⟩ = some (.int .i64 x396005_1) ∧ w19.cell? ⟨gb395, 6, none⟩ = some (.int .i64 x396006_1) ∧ w19.cell? ⟨gb395, 7, none⟩ = some (.string x396007_1) ∧ w19.cell? (ad396.add ((x7_1).toNat * 7)) = some (.int .i64 ((rd_T32 l1 x7_1).f0)) ∧ w19.cell? ⟨(ad396.add ((x7_1).toNat * 7)).block, (ad396.add ((x7_1).toNat * 7)).off + 1, none⟩ = some (.int .i64 ((rd_T32 l1 x7_1).f1)) ∧ w19.cell? ⟨(ad396.add ((x7_1).toNat * 7)).block, (ad396.add ((x7_1).toNat * 7)).off + 2, none⟩ = some (.int .i64 ((rd_T32 l1 x7_1).f2)) ∧ w19.cell? ⟨(ad396.add ((x7_1).toNat * 7)).block, (ad396.add ((x7_1).toNat * 7)).off + 3, none⟩ = some (.int .i64 ((rd_T32 l1 x7_1).f3)) ∧ w19.cell? ⟨(ad396.add ((x7_1).toNat * 7)).block, (ad396.add ((x7_1).toNat * 7)).off + 4, none⟩ = some (.int .i64 ((rd_T32 l1 x7_1).f4)) ∧ w19.cell? ⟨(ad396.add ((x7_1).toNat * 7)).block, (ad396.add ((x7_1).toNat * 7)).off + 5, none⟩ = some (.string ((rd_T32 l1 x7_1).f5)) ∧ w19.cell? ⟨(ad396.add ((x7_1).toNat * 7)).block, (ad396.add ((x7_1).toNat * 7)).off + 6, none⟩ = some (.int .i64 ((rd_T32 l1 x7_1).f6)) := hS_
      refine norm_ (a' := ?_) ?_ ?_; rotate_left
      ·simp only [putAll, Act.put, List.setIfInBounds_toArray, List.set_cons_zero, List.set_cons_succ]
       rfl
      refine one_ (i := 11) (N := none) #[Y_,Y_,Y_,Y_,Y_,Y_,Y_,Y_,Y_,Y_,Y_,Y_,N_] rfl rfl (one_of HT_.out (by kernel_rfl)) (by decide) (fun K hK => ?_); have hs20 : w19.cell? ⟨gb408, 0, none⟩ = some (.int .i64 0) := ck BK408 0; have hfs20 := blk_frozen BK408.out 0; have := NB383_408.out; have := NB395_408.out; have := NB408_383.out; have := NB408_395.out; have hs21 : w19.cell? ⟨gb408, 1, none⟩ = some (.int .i64 0) := ck BK408 1; have hfs21 := blk_frozen BK408.out 1; have := NB383_408.out; have := NB395_408.out; have := NB408_383.out; have := NB408_395.out; have hs22 : w19.cell? ⟨gb408, 2, none⟩ = some (.int .i64 0) := ck BK408 2; have hfs22 := blk_frozen BK408.out 2; have := NB383_408.out; have := NB395_408.out; have := NB408_383.out; have := NB408_395.out; have hs23 : w19.cell? ⟨gb408, 3, none⟩ = some (.int .i64 0) := ck BK408 3; have hfs23 := blk_frozen BK408.out 3; have := NB383_408.out; have := NB395_408.out; have := NB408_383.out; have := NB408_395.out; have hs24 : w19.cell? ⟨gb408, 4, none⟩ = some (.int .i64 0) := ck BK408 4; have hfs24 := blk_frozen BK408.out 4; have := NB383_408.out; have := NB395_408.out; have := NB408_383.out; have := NB408_395.out; have hs25 : w19.cell? ⟨gb408, 5, none⟩ = some (.int .i64 0) := ck BK408 5; have hfs25 := blk_frozen BK408.out 5; have := NB383_408.out; have := NB395_408.out; have := NB408_383.out; have := NB408_395.out; have hs26 : w19.cell? ⟨gb408, 6, none⟩ = some (.int .i64 0) := ck BK408 6; have hfs26 := blk_frozen BK408.out 6; have := NB383_408.out; have := NB395_408.out; have := NB408_383.out; have := NB408_395.out; have hs27 : w19.cell? ⟨gb408, 7, none⟩ = some (.string (⟨#[]⟩ : ByteArray)) := ck BK408 7; have hfs27 := blk_frozen BK408.out 7; have := NB383_408.out; have := NB395_408.out; have := NB408_383.out; have := NB408_395.out; refine skip_ (w1 := ?_) (by rfl) rfl ?_ ?_; rotate_left
      ·go_simp
       rfl
      refine hK.out _ _ ⟨((far8 (g := gb408) NB383_408.out).trans (hHeld.1)), ((far8 (g := gb408) NB383_408.out).trans (hHeld.2.1)), ((far8 (g := gb408) NB383_408.out).trans (hHeld.2.2.1)), ((far8 (g := gb408) NB395_408.out).trans (hHeld.2.2.2.1)), ((far8 (g := gb408) NB395_408.out).trans (hHeld.2.2.2.2.1)), ((far8 (g := gb408) NB395_408.out).trans (hHeld.2.2.2.2.2.1)), ((far8 (g := gb408) NB395_408.out).trans (hHeld.2.2.2.2.2.2.1)), ((far8 (g := gb408) NB395_408.out).trans (hHeld.2.2.2.2.2.2.2.1)), ((far8 (g := gb408) NB395_408.out).trans (hHeld.2.2.2.2.2.2.2.2.1)), ((far8 (g := gb408) NB395_408.out).trans (hHeld.2.2.2.2.2.2.2.2.2.1)), ((far8 (g := gb408) NB395_408.out).trans (hHeld.2.2.2.2.2.2.2.2.2.2.1)), ((far8 (g := gb408) (by have e_ := Nat.ne_of_lt (Nat.lt_of_lt_of_le (by have := World.block_lt_of_cell? _ _ hw396_0; first | rwa [add_block] at this | exact this) GW408.out); first | exact e_ | (rw [add_block]; exact e_) | (show (Addr.add _ _).block ≠ _; rw [add_block]; exact e_) | (dsimp only; exact e_))).trans (hHeld.2.2.2.2.2.2.2.2.2.2.2.1)), ((far8 (g := gb408) (by have e_ := Nat.ne_of_lt (Nat.lt_of_lt_of_le (by have := World.block_lt_of_cell? _ _ hw396_1; first | rwa [add_block] at this | exact this) GW408.out); first | exact e_ | (rw [add_block]; exact e_) | (show (Addr.add _ _).block ≠ _; rw [add_block]; exact e_) | (dsimp only; exact e_))).trans (hHeld.2.2.2.2.2.2.2.2.2.2.2.2.1)), ((far8 (g := gb408) (by have e_ := Nat.ne_of_lt (Nat.lt_of_lt_of_le (by have := World.block_lt_of_cell? _ _ hw396_2; first | rwa [add_block] at this | exact this) GW408.out); first | exact e_ | (rw [add_block]; exact e_) | (show (Addr.add _ _).block ≠ _; rw [add_block]; exact e_) | (dsimp only; exact e_))).trans (hHeld.2.2.2.2.2.2.2.2.2.2.2.2.2.1)), ((far8 (g := gb408) (by have e_ := Nat.ne_of_lt (Nat.lt_of_lt_of_le (by have := World.block_lt_of_cell? _ _ hw396_3; first | rwa [add_block] at this | exact this) GW408.out); first | exact e_ | (rw [add_block]; exact e_) | (show (Addr.add _ _).block ≠ _; rw [add_block]; exact e_) | (dsimp only; exact e_))).trans (hHeld.2.2.2.2.2.2.2.2.2.2.2.2.2.2.1)), ((far8 (g := gb408) (by have e_ := Nat.ne_of_lt (Nat.lt_of_lt_of_le (by have := World.block_lt_of_cell? _ _ hw396_4; first | rwa [add_block] at this | exact this) GW408.out); first | exact e_ | (rw [add_block]; exact e_) | (show (Addr.add _ _).block ≠ _; rw [add_block]; exact e_) | (dsimp only; exact e_))).trans (hHeld.2.2.2.2.2.2.2.2.2.2.2.2.2.2.2.1)), ((far8 (g := gb408) (by have e_ := Nat.ne_of_lt (Nat.lt_of_lt_of_le (by have := World.block_lt_of_cell? _ _ hw396_5; first | rwa [add_block] at this | exact this) GW408.out); first | exact e_ | (rw [add_block]; exact e_) | (show (Addr.add _ _).block ≠ _; rw [add_block]; exact e_) | (dsimp only; exact e_))).trans (hHeld.2.2.2.2.2.2.2.2.2.2.2.2.2.2.2.2.1)), ((far8 (g := gb408) (by have e_ := Nat.ne_of_lt (Nat.lt_of_lt_of_le (by have := World.block_lt_of_cell? _ _ hw396_6; first | rwa [add_block] at this | exact this) GW408.out); first | exact e_ | (rw [add_block]; exact e_) | (show (Addr.add _ _).block ≠ _; rw [add_block]; exact e_) | (dsimp only; exact e_))).trans (hHeld.2.2.2.2.2.2.2.2.2.2.2.2.2.2.2.2.2))⟩ (fun hHeld => ?_)
      clear hK K; refine pstep 12 (some 9) #[Y_,Y_,Y_,Y_,Y_,Y_,Y_,Y_,Y_,Y_,Y_,Y_,Y_] HT_.out ?_; refine done_ (done_of HT_.out (by kernel_rfl)) ?_; obtain ⟨Ao29, co29, eo29⟩ := Kd.R_slice HO407.out; subst eo29
      try go_wp2_with (first | ((with_reducible refine gate_builtin (b := .append) (xs := #[.tmp 29, .tmp 30]) rfl ?_); at_builtin; refine Kd.R_append_rows k32 (w0 := w) w.heap.size rfl (.tmp 29) (.tmp 30) 24 32 (.agg #[(.int .i64 0), (.int .i64 0), (.int .i64 0), (.int .i64 0), (.int .i64 0), (.string ⟨#[]⟩), (.int .i64 0)]) 64 rfl Try.underlying24 info32 rfl (by decide) (by omega) u5 x5_1 t405 _ _ _ (fun k_ => some k_ ≠ (.slice Ao29 t405.length co29 : Value).ownBlock) (fun _ => False) rfl rfl ?aO ?aR (fun _ _ h => h) (fun _ h => h.elim) ?aF ?aB ?aS ?aL ?_; (case aR => refine (Kd.R_reads' (e := 32) (base := w.heap.size) (ok := fun k_ => some k_ ≠ (u5 : Value).ownBlock) (n := t405.length) (c := co29) ?_).2.2; exact (by (with_reducible repeat (first | apply Kd.R_alloc | apply Kd.R_drewN | apply Kd.R_drew)); exact (Kd.R_mono (Kd.R_far (p := ⟨gb408, 7, none⟩) (Kd.R_far (p := ⟨gb408, 6, none⟩) (Kd.R_far (p := ⟨gb408, 5, none⟩) (Kd.R_far (p := ⟨gb408, 4, none⟩) (Kd.R_far (p := ⟨gb408, 3, none⟩) (Kd.R_far (p := ⟨gb408, 2, none⟩) (Kd.R_far (p := ⟨gb408, 1, none⟩) (Kd.R_far (p := ⟨gb408, 0, none⟩) (Kd.R_types HO407.out BK408.out (by decide)) (fun _ hk => hk.2) (.int .i64 t397)) (fun _ hk => hk.2) (.int .i64 t398)) (fun _ hk => hk.2) (.int .i64 t399)) (fun _ hk => hk.2) (.int .i64 t400)) (fun _ hk => hk.2) (.int .i64 t401)) (fun _ hk => hk.2) (.int .i64 t402)) (fun _ hk => hk.2) (.int .i64 t403)) (fun _ hk => hk.2) (.string t404)) (fun _ h_ => h_.1)))); (case aB => exact (hbw HB.out)); (case aF => exact (fun k_ hk => Kd.fresh' (Kd.R_lt (by (with_reducible repeat (first | apply Kd.R_alloc | apply Kd.R_drewN | apply Kd.R_drew)); exact (Kd.R_mono (Kd.R_far (p := ⟨gb408, 7, none⟩) (Kd.R_far (p := ⟨gb408, 6, none⟩) (Kd.R_far (p := ⟨gb408, 5, none⟩) (Kd.R_far (p := ⟨gb408, 4, none⟩) (Kd.R_far (p := ⟨gb408, 3, none⟩) (Kd.R_far (p := ⟨gb408, 2, none⟩) (Kd.R_far (p := ⟨gb408, 1, none⟩) (Kd.R_far (p := ⟨gb408, 0, none⟩) (Kd.R_types HO407.out BK408.out (by decide)) (fun _ hk => hk.2) (.int .i64 t397)) (fun _ hk => hk.2) (.int .i64 t398)) (fun _ hk => hk.2) (.int .i64 t399)) (fun _ hk => hk.2) (.int .i64 t400)) (fun _ hk => hk.2) (.int .i64 t401)) (fun _ hk => hk.2) (.int .i64 t402)) (fun _ hk => hk.2) (.int .i64 t403)) (fun _ hk => hk.2) (.string t404)) (fun _ h_ => h_.1)))) k_ hk)); (case aO => exact (by (with_reducible repeat (first | apply Kd.R_alloc | apply Kd.R_drewN | apply Kd.R_drew)); exact Kd.R_mono (Kd.R_far (p := ⟨gb408, 7, none⟩) (Kd.R_far (p := ⟨gb408, 6, none⟩) (Kd.R_far (p := ⟨gb408, 5, none⟩) (Kd.R_far (p := ⟨gb408, 4, none⟩) (Kd.R_far (p := ⟨gb408, 3, none⟩) (Kd.R_far (p := ⟨gb408, 2, none⟩) (Kd.R_far (p := ⟨gb408, 1, none⟩) (Kd.R_far (p := ⟨gb408, 0, none⟩) (Kd.R_types HO_5.out BK408.out (by decide)) (fun _ hk => hk.2) (.int .i64 t397)) (fun _ hk => hk.2) (.int .i64 t398)) (fun _ hk => hk.2) (.int .i64 t399)) (fun _ hk => hk.2) (.int .i64 t400)) (fun _ hk => hk.2) (.int .i64 t401)) (fun _ hk => hk.2) (.int .i64 t402)) (fun _ hk => hk.2) (.int .i64 t403)) (fun _ hk => hk.2) (.string t404)) (fun _ hk => hk.1))); (case aS => exact (below_size (hbw HB.out))); (case aL => have := LMc15.out; omega); intro v410 w28 ho hb hg hat; rw [← Ny409.out] at ho; have n0_ := sA (blk_grown (g := gb383) (o := .cells #[.string a0_0, .int .i64 a0_1, .bool a0_2] 23 (0, 0)) (by (repeat (with_reducible first | refine blk_far ?_ NB383_408.out _ | refine blk_drewN ?_ _ | refine blk_drew ?_ | refine blk_alloc ?_ _)); exact BK383.out) hg (Kd.R_ne HO_5.out BK383.out (by decide))); have n1_ := sA (blk_grown (g := gb395) (o := .cells #[.int .i64 x396000_1, .int .i64 x396001_1, .int .i64 x396002_1, .int .i64 x396003_1, .int .i64 x396004_1, .int .i64 x396005_1, .int .i64 x396006_1, .string x396007_1] 27 (0, 0)) (by (repeat (with_reducible first | refine blk_far ?_ NB395_408.out _ | refine blk_drewN ?_ _ | refine blk_drew ?_ | refine blk_alloc ?_ _)); exact BK395.out) hg (Kd.R_ne HO_5.out BK395.out (by decide))); have n2_ := sA (Kd.R_after (ok := (fun _ => True)) (by (with_reducible repeat (first | apply Kd.R_alloc | apply Kd.R_drewN | apply Kd.R_drew)); exact Kd.R_mono (Kd.R_far (p := ⟨gb408, 7, none⟩) (Kd.R_far (p := ⟨gb408, 6, none⟩) (Kd.R_far (p := ⟨gb408, 5, none⟩) (Kd.R_far (p := ⟨gb408, 4, none⟩) (Kd.R_far (p := ⟨gb408, 3, none⟩) (Kd.R_far (p := ⟨gb408, 2, none⟩) (Kd.R_far (p := ⟨gb408, 1, none⟩) (Kd.R_far (p := ⟨gb408, 0, none⟩) (Kd.R_types HO407.out BK408.out (by decide)) (fun _ hk => hk.2) (.int .i64 t397)) (fun _ hk => hk.2) (.int .i64 t398)) (fun _ hk => hk.2) (.int .i64 t399)) (fun _ hk => hk.2) (.int .i64 t400)) (fun _ hk => hk.2) (.int .i64 t401)) (fun _ hk => hk.2) (.int .i64 t402)) (fun _ hk => hk.2) (.int .i64 t403)) (fun _ hk => hk.2) (.string t404)) (fun _ hk => ⟨trivial, hk.1⟩)) hg hat); have n3_ := sA (blk_grown (g := gb408) (o := .cells #[.int .i64 t397, .int .i64 t398, .int .i64 t399, .int .i64 t400, .int .i64 t401, .int .i64 t402, .int .i64 t403, .string t404] 27 (0, 0)) (by (with_reducible repeat (first | refine blk_drewN ?_ _ | refine blk_drew ?_ | refine blk_alloc ?_ _)); refine blk_put8 (.int .i64 0) (.int .i64 0) (.int .i64 0) (.int .i64 0) (.int .i64 0) (.int .i64 0) (.int .i64 0) (.string (⟨#[]⟩ : ByteArray)) ?_; (with_reducible repeat (first | refine blk_drewN ?_ _ | refine blk_drew ?_ | refine blk_alloc ?_ _)); exact BK408.out) hg (Kd.R_ne HO_5.out BK408.out (by decide))); have n4_ := sA (hb); have n5_ := sA (ho); clear BK383; clear BK395; clear HO407; clear BK408; clear HB; clear HO_5; have BK383 := n0_; have BK395 := n1_; have HO407 := n2_; have BK408 := n3_; have HB := n4_; have HO411 := n5_; clear n0_ n1_ n2_ n3_ n4_ n5_; clear ho hb hg hat; have hnb30 := NB408_383.out; have hnc30 := NB383_408.out; have hnb31 := NB408_395.out; have hnc31 := NB395_408.out; obtain ⟨_,_,_,_,_,_,_,_,_,_,_,_,_,_,_,_⟩ := cQ8 BK408; have hnb33 := NB395_383.out; have hnc33 := NB383_395.out; obtain ⟨_,_,_,_,_,_,_,_,_,_,_,_,_,_,_,_⟩ := cQ8 BK395))
      go_roundg k1
      case measure => have := HK1.out; omega
      case rel => exact ⟨(y409), (wrap64 (x7_1 + 1)), (t397), (t398), (t399), (t400), (t401), (t402), (t403), (t404), (by first | rfl | (simp; done) | (simp [*]; done)), H', ⟨by have := HK1.out; omega⟩, ⟨by (with_reducible repeat (first | apply Kd.R_alloc | apply Kd.R_drewN | apply Kd.R_drew)); exact Kd.R_mono (Kd.R_far (p := ⟨gb395, 7, none⟩) (Kd.R_far (p := ⟨gb395, 6, none⟩) (Kd.R_far (p := ⟨gb395, 5, none⟩) (Kd.R_far (p := ⟨gb395, 4, none⟩) (Kd.R_far (p := ⟨gb395, 3, none⟩) (Kd.R_far (p := ⟨gb395, 2, none⟩) (Kd.R_far (p := ⟨gb395, 1, none⟩) (Kd.R_far (p := ⟨gb395, 0, none⟩) (Kd.R_types HO411.out BK395.out (by decide)) (fun _ hk => hk.2) (.int .i64 t397)) (fun _ hk => hk.2) (.int .i64 t398)) (fun _ hk => hk.2) (.int .i64 t399)) (fun _ hk => hk.2) (.int .i64 t400)) (fun _ hk => hk.2) (.int .i64 t401)) (fun _ hk => hk.2) (.int .i64 t402)) (fun _ hk => hk.2) (.int .i64 t403)) (fun _ hk => hk.2) (.string t404)) (fun _ hk => trivial)⟩, ⟨by (repeat (with_reducible first | refine blk_far ?_ NB383_395.out _ | refine blk_drewN ?_ _ | refine blk_drew ?_ | refine blk_alloc ?_ _)); exact BK383.out⟩, ⟨by (with_reducible repeat (first | refine blk_drewN ?_ _ | refine blk_drew ?_ | refine blk_alloc ?_ _)); refine blk_put8 (.int .i64 x396000_1) (.int .i64 x396001_1) (.int .i64 x396002_1) (.int .i64 x396003_1) (.int .i64 x396004_1) (.int .i64 x396005_1) (.int .i64 x396006_1) (.string x396007_1) ?_; (with_reducible repeat (first | refine blk_drewN ?_ _ | refine blk_drew ?_ | refine blk_alloc ?_ _)); exact BK395.out⟩, ⟨hbw HB.out⟩⟩
     ·rw [if_neg c15] at H
      exact absurd H (by simp)
    ·rw [if_neg c13] at H
     exact absurd H (by simp)
   ·rw [if_neg c12] at H
    have c12b0 : decide (x7_1 < (l1.length : Int)) = false := decide_eq_false c12; clear c12; replace H := Option.bind_eq_some_iff.mp H; obtain ⟨t412, A350, H⟩ := H; replace H : (if x5_1.length + t412.length < 2199023255552 then (some (x5_1 ++ t412)) else (none)) = some r := H; have A35 := sA A350; clear A350
    by_cases c36 : x5_1.length + t412.length < 2199023255552
    ·rw [if_pos c36] at H
     have LMc36 := sA c36; clear c36; obtain ⟨y415, hy415⟩ : ∃ y_ : List (S32), y_ = (x5_1 ++ t412) := ⟨_, rfl⟩
     replace H : (some y415) = some r := by first | (rw [hy415]; with_reducible exact H) | (have H2_ := (Option.bind_some _ _).symm.trans H; rw [hy415]; with_reducible exact H2_) | (have H2_ := (Option.bind_some _ _).symm.trans H; with_reducible exact H2_) | with_reducible exact H | (rw [hy415]; exact H) | exact H
     have Ny415 := sA hy415; clear hy415; obtain rfl := Option.some.inj H; have hnb37 := NB383_395.out; have hnc37 := NB395_383.out; obtain ⟨_,_,_,_,_,_⟩ := cQ3 BK383; obtain ⟨_,_,_,_,_,_,_,_,_,_,_,_,_,_,_,_⟩ := cQ8 BK395
     go_wp2_with (first | ((with_reducible refine gate_callee (f := 15) rfl ?_); refine goesK (some 36) Try.func15 #[.agg #[.string a0_0, .int .i64 a0_1, .bool a0_2], .agg #[.int .i64 x396000_1, .int .i64 x396001_1, .int .i64 x396002_1, .int .i64 x396003_1, .int .i64 x396004_1, .int .i64 x396005_1, .int .i64 x396006_1, .string x396007_1]] ?_; (with_reducible refine (signalbenchref21_End.calls k1 a0_0 a0_1 a0_2 x396000_1 x396001_1 x396002_1 x396003_1 x396004_1 x396005_1 x396006_1 x396007_1 t412 _ A35.out).mono ?_); rintro e w40 ⟨v413, rfl, ho0, hb⟩; refine ⟨_, rfl, ?_⟩; have HO414 := sA (Kd.R_lower (Kd.R_new' ho0 (Kd.R_lt (rkw HO_5.out))) (below_size (hbw HB.out))); replace HO_5 := sA (Kd.R_elder' (rkw HO_5.out) (Kd.R_base ho0) hb); replace BK383 := sA (blkb BK383.out hb); replace BK395 := sA (blkb BK395.out hb); replace HB := bst HB hb; (try clear hb); (try clear hk); (try clear ho0); obtain ⟨Ao42, co42, eo42⟩ := Kd.R_slice HO414.out; subst eo42) | ((with_reducible refine gate_builtin (b := .append) (xs := #[.tmp 33, .tmp 36]) rfl ?_); at_builtin; refine Kd.R_append_rows k32 (w0 := w) w.heap.size rfl (.tmp 33) (.tmp 36) 24 32 (.agg #[(.int .i64 0), (.int .i64 0), (.int .i64 0), (.int .i64 0), (.int .i64 0), (.string ⟨#[]⟩), (.int .i64 0)]) 64 rfl Try.underlying24 info32 rfl (by decide) (by omega) u5 x5_1 t412 _ _ _ (fun k_ => some k_ ≠ (.slice Ao42 t412.length co42 : Value).ownBlock) (fun _ => False) rfl rfl ?aO ?aR (fun _ _ h => h) (fun _ h => h.elim) ?aF ?aB ?aS ?aL ?_; (case aR => repeat (first | exact (Kd.R_reads' HO414.out).2.2 | (with_reducible refine Kd.C_alloc ?_ _) | (with_reducible refine Kd.C_drewN ?_ _) | (with_reducible refine Kd.C_drew ?_))); (case aB => exact (hbw HB.out)); (case aF => exact (fun k_ hk => Kd.fresh' (Kd.R_lt (rkw HO414.out)) k_ hk)); (case aO => exact (by (with_reducible repeat (first | apply Kd.R_alloc | apply Kd.R_drewN | apply Kd.R_drew)); exact Kd.R_mono HO_5.out (fun _ hk => hk.2))); (case aS => exact (below_size (hbw HB.out))); (case aL => have := LMc36.out; omega); intro v416 w41 ho hb hg hat; rw [← Ny415.out] at ho; have n0_ := sA (blkg BK383.out hg (Kd.R_ne HO_5.out BK383.out (by decide))); have n1_ := sA (blkg BK395.out hg (Kd.R_ne HO_5.out BK395.out (by decide))); have n2_ := sA (Kd.R_after (ok := (fun _ => True)) (rkw HO414.out) hg hat); have n3_ := sA (hb); have n4_ := sA (ho); clear BK383; clear BK395; clear HO414; clear HB; clear HO_5; have BK383 := n0_; have BK395 := n1_; have HO414 := n2_; have HB := n3_; have HO417 := n4_; clear n0_ n1_ n2_ n3_ n4_; clear ho hb hg hat))
     go_ret
     exact ⟨_, eW_, by (with_reducible repeat (first | apply Kd.R_alloc | apply Kd.R_drewN | apply Kd.R_drew)); exact Kd.R_mono HO417.out (fun _ hk => trivial), hbw HB.out⟩
    ·rw [if_neg c36] at H
     exact absurd H (by simp)

end Go.Proofs.Ytbggkaofkohecaa.PSyncDecodes
