-- Written by a program of this session (wip/tools/pr.py), which calls the kit's print with changes of its own.
import Derived.Test.YteeejopgaegaoaaDoorPCheckDetectsx0
import Derived.Test.YteeejopgaegaoaaDoorPCheckDetectsx2
import Derived.Test.YteeejopgaegaoaaDoorPCheckDetectsx4
namespace Go.Proofs.YteeejopgaegaoaaDoor.PCheckDetects
open Go.RowKit Go.Proofs.YteeejopgaegaoaaDoorW.PrintWords Go.Proofs.YteeejopgaegaoaaDoorW.PrintLast Go.Proofs.YteeejopgaegaoaaDoorW.PrintMore
attribute [local go_sem] max2_int min2_int max_two min_two max_three min_three max_four min_four   -- for this text's walks alone
set_option linter.unusedVariables false
set_option linter.unusedSimpArgs false

/-! ### signalbenchlaw04_flip: function 25 -/
mutual
def signalbenchlaw04_flip.l0 : Nat → ByteArray → Int → Int → Int → ByteArray → Bool → Int → Option (ByteArray × Bool)
 | 0, _, _, _, _, _, _, _ => none
 | k + 1, x0, x1, x2, x3, x10, x11, x12 => if x12 < (x0.size : Int) then (if (wrap64 (x12 - x1)) < x3 then (if 0 ≤ (wrap64 (x12 - x1)) then (signalbenchlaw04_flip.j1 k x0 x1 x2 x3 x10 x11 x12 ((Int.tmod (shr .i64 x2 (wrap64 (x12 - x1))) 2) == 1)) else (none)) else (signalbenchlaw04_flip.j1 k x0 x1 x2 x3 x10 x11 x12 false)) else (some (x10, x11))
def signalbenchlaw04_flip.j1 : Nat → ByteArray → Int → Int → Int → ByteArray → Bool → Int → Bool → Option (ByteArray × Bool)
 | 0, _, _, _, _, _, _, _, _ => none
 | k + 1, x0, x1, x2, x3, x10, x11, x12, x36 => if x36 = true then (if 0 ≤ x12 then (if x12 < (x0.size : Int) then (if (bt x0 x12) = 48 then (if x10.size + 1 ≤ 9223372036854775807 then (signalbenchlaw04_flip.l0 k x0 x1 x2 x3 (x10 ++ (⟨#[49]⟩ : ByteArray)) true (wrap64 (x12 + 1))) else (none)) else (if x10.size + 1 ≤ 9223372036854775807 then (signalbenchlaw04_flip.l0 k x0 x1 x2 x3 (x10 ++ (⟨#[48]⟩ : ByteArray)) true (wrap64 (x12 + 1))) else (none))) else (none)) else (none)) else (if 0 ≤ x12 then (if x12 ≤ (wrap64 (x12 + 1)) then (if (wrap64 (x12 + 1)) ≤ (x0.size : Int) then (if x10.size + (x0.extract (x12 : Int).toNat ((wrap64 (x12 + 1)) : Int).toNat).size ≤ 9223372036854775807 then (signalbenchlaw04_flip.l0 k x0 x1 x2 x3 (x10 ++ (x0.extract (x12 : Int).toNat ((wrap64 (x12 + 1)) : Int).toNat)) x11 (wrap64 (x12 + 1))) else (none)) else (none)) else (none)) else (none))
end
def signalbenchlaw04_flip.f (k : Nat) (a0 : ByteArray) (a1 : Int) (a2 : Int) (a3 : Int) : Option (ByteArray × Bool) := if 0 ≤ a1 then (if a1 ≤ (a0.size : Int) then (signalbenchlaw04_flip.l0 k a0 a1 a2 a3 (a0.extract 0 (a1 : Int).toNat) false a1) else (none)) else (none)
theorem signalbenchlaw04_flip.mono_l : ∀ k, (∀ y0 y1 y2 y3 y4 y5 y6, LeO (signalbenchlaw04_flip.l0 k y0 y1 y2 y3 y4 y5 y6) (signalbenchlaw04_flip.l0 (k + 1) y0 y1 y2 y3 y4 y5 y6)) ∧ (∀ y0 y1 y2 y3 y4 y5 y6 y7, LeO (signalbenchlaw04_flip.j1 k y0 y1 y2 y3 y4 y5 y6 y7) (signalbenchlaw04_flip.j1 (k + 1) y0 y1 y2 y3 y4 y5 y6 y7))
 | 0 => ⟨fun _ _ _ _ _ _ _ r h => by simp [signalbenchlaw04_flip.l0] at h, fun _ _ _ _ _ _ _ _ r h => by simp [signalbenchlaw04_flip.j1] at h⟩
 | k + 1 => by
  obtain ⟨ih0, ih1⟩ := signalbenchlaw04_flip.mono_l k
  refine ⟨?_, ?_⟩
  ·intro y0 y1 y2 y3 y4 y5 y6
   unfold signalbenchlaw04_flip.l0
   repeat' first
   | (with_reducible exact ih0 _ _ _ _ _ _ _)
   | (with_reducible exact ih1 _ _ _ _ _ _ _ _)
   | (with_reducible exact LeO.refl _)
   | (with_reducible exact LeO.none _)
   | (with_reducible refine LeO.ite ?_ ?_)
   | (with_reducible refine LeO.bind ?_ (fun _ => ?_))
   | exact ih0 _ _ _ _ _ _ _
   | exact ih1 _ _ _ _ _ _ _ _
   | exact LeO.none _
   | refine LeO.ite ?_ ?_
   | refine LeO.bind ?_ (fun _ => ?_)
  ·intro y0 y1 y2 y3 y4 y5 y6 y7
   unfold signalbenchlaw04_flip.j1
   repeat' first
   | (with_reducible exact ih0 _ _ _ _ _ _ _)
   | (with_reducible exact ih1 _ _ _ _ _ _ _ _)
   | (with_reducible exact LeO.refl _)
   | (with_reducible exact LeO.none _)
   | (with_reducible refine LeO.ite ?_ ?_)
   | (with_reducible refine LeO.bind ?_ (fun _ => ?_))
   | exact ih0 _ _ _ _ _ _ _
   | exact ih1 _ _ _ _ _ _ _ _
   | exact LeO.none _
   | refine LeO.ite ?_ ?_
   | refine LeO.bind ?_ (fun _ => ?_)
theorem signalbenchlaw04_flip.mono : ∀ a0 a1 a2 a3 k, LeO (signalbenchlaw04_flip.f k a0 a1 a2 a3) (signalbenchlaw04_flip.f (k + 1) a0 a1 a2 a3) := by
 intro a0 a1 a2 a3 k
 obtain ⟨ih0, ih1⟩ := signalbenchlaw04_flip.mono_l k
 unfold signalbenchlaw04_flip.f
 repeat' first
   | (with_reducible exact ih0 _ _ _ _ _ _ _)
   | (with_reducible exact ih1 _ _ _ _ _ _ _ _)
   | (with_reducible exact LeO.refl _)
   | (with_reducible exact LeO.none _)
   | (with_reducible refine LeO.ite ?_ ?_)
   | (with_reducible refine LeO.bind ?_ (fun _ => ?_))
   | exact ih0 _ _ _ _ _ _ _
   | exact ih1 _ _ _ _ _ _ _ _
   | exact LeO.none _
   | refine LeO.ite ?_ ?_
   | refine LeO.bind ?_ (fun _ => ?_)
set_option maxHeartbeats 8000000 in
set_option maxRecDepth 100000 in
theorem signalbenchlaw04_flip.calls (k : Nat) (a0 : ByteArray) (a1 : Int) (a2 : Int) (a3 : Int) (r1 : ByteArray) (r2 : Bool) (w : World) (h : signalbenchlaw04_flip.f k a0 a1 a2 a3 = some (r1, r2)) :
  Calls Tryd.prog 25 #[.string a0, .int .i64 a1, .int .i64 a2, .int .i64 a3] w fun e w' => e = .returned (.tuple #[.string r1, .bool r2]) ∧ Drawn0 w w' := by
 have H : (if 0 ≤ a1 then (if a1 ≤ (a0.size : Int) then (signalbenchlaw04_flip.l0 k a0 a1 a2 a3 (a0.extract 0 (a1 : Int).toNat) false a1) else (none)) else (none)) = some (r1, r2) := h
 clear h
 by_cases c5 : 0 ≤ a1
 ·rw [if_pos c5] at H
  have c5b0 := eq_true c5
  have c5b1 : decide (0 ≤ a1) = true := decide_eq_true c5
  clear c5
  by_cases c6 : a1 ≤ (a0.size : Int)
  ·rw [if_pos c6] at H
   have c6b0 := eq_true c6
   have c6b1 : decide (a1 ≤ (a0.size : Int)) = true := decide_eq_true c6
   clear c6
   have H' := Aside0.mk H
   clear H
   go_enter Tryd.func25, Tryd.ntmps25
   go_wp2
   go_loopg [10, 11, 12] k (fun kq v10 v11 v12 w' => ∃ (x10_1 : ByteArray) (x11_1 : Bool) (x12_1 : Int), v10 = .string x10_1 ∧ v11 = .bool x11_1 ∧ v12 = .int .i64 x12_1 ∧ Aside0 (signalbenchlaw04_flip.l0 kq a0 a1 a2 a3 x10_1 x11_1 x12_1 = some (r1, r2)) ∧ Aside0 (kq ≤ k) ∧ Drawn0 w w')
   case atStart => exact ⟨(a0.extract 0 (a1 : Int).toNat), (false), (a1), (by first | rfl | (simp; done) | (simp [*]; done)), (by first | rfl | (simp; done) | (simp [*]; done)), (by first | rfl | (simp; done) | (simp [*]; done)), H', ⟨Nat.le_refl _⟩, by repeat (first | exact Drawn0.refl _ | apply Drawn0.step)⟩
   case round =>
    clear H'
    try clear c2
    try clear p2
    try clear c5
    try clear c5b0
    try clear c5b1
    try clear c6
    try clear c6b0
    try clear c6b1
    obtain ⟨x10_1, x11_1, x12_1, rfl, rfl, rfl, HA, HK1, ⟨m1, rfl⟩⟩ := hrel
    cases gk with
    | zero => exact absurd HA.out (by simp [signalbenchlaw04_flip.l0])
    | succ k1 =>
     have H := HA.out
     clear HA
     simp only [signalbenchlaw04_flip.l0] at H
     by_cases c7 : x12_1 < (a0.size : Int)
     ·rw [if_pos c7] at H
      have c7b0 : decide (x12_1 < (a0.size : Int)) = true := decide_eq_true c7
      clear c7
      have HC8 := Aside0.mk H
      clear H
      go_upto_region 5 with (fail)
      go_cut [36] (fun v36 wc => ∃ (kq : Nat) (x36_7 : Bool), v36 = .bool x36_7 ∧ Aside0 (signalbenchlaw04_flip.j1 kq a0 a1 a2 a3 x10_1 x11_1 x12_1 x36_7 = some (r1, r2)) ∧ Aside0 (kq ≤ k1) ∧ Drawn0 w wc)
      case first =>
       have H := HC8.out
       clear HC8
       by_cases c9 : (wrap64 (x12_1 - a1)) < a3
       ·rw [if_pos c9] at H
        have c9b0 : decide ((wrap64 (x12_1 - a1)) < a3) = true := decide_eq_true c9
        clear c9
        (first | rw [c9b0] | (simp only [i64_w, i32_w]; rw [c9b0]) | skip)
        obtain ⟨ji10, hji10⟩ : ∃ j_ : Int, (wrap64 (x12_1 - a1)) = j_ := ⟨_, rfl⟩
        replace H : (if 0 ≤ (ji10) then (signalbenchlaw04_flip.j1 k1 a0 a1 a2 a3 x10_1 x11_1 x12_1 ((Int.tmod (shr .i64 a2 (ji10)) 2) == 1)) else (none)) = some (r1, r2) := by first | (rw [hji10] at H; exact H) | (simp only [hji10] at H ⊢; exact H)
        (try rw [hji10] at c9b0)
        have hji10w : (IntKind.i64.wrap (x12_1 - a1)) = ji10 := (i64_w _).trans hji10
        by_cases c11 : 0 ≤ (ji10)
        ·rw [if_pos c11] at H
         have c11b0 := eq_true c11
         have c11b1 : decide (0 ≤ (ji10)) = true := decide_eq_true c11
         clear c11
         obtain ⟨ji12, hji12⟩ : ∃ j_ : Int, (shr .i64 a2 (ji10)) = j_ := ⟨_, rfl⟩
         replace H : (signalbenchlaw04_flip.j1 k1 a0 a1 a2 a3 x10_1 x11_1 x12_1 ((Int.tmod (ji12) 2) == 1)) = some (r1, r2) := by first | (rw [hji12] at H; exact H) | (simp only [hji12] at H ⊢; exact H)
         have hji12_ : (a2 / 2 ^ min (ji10).toNat 64) = ji12 := hji12
         have hji12z : (ji10) ≤ 64 → (a2 / 2 ^ (ji10).toNat) = ji12 := shr_small hji12
         have H' := Aside0.mk H
         clear H
         go_wp2
         go_meet
         case rel => exact ⟨_, (((Int.tmod (ji12) 2) == 1)), (by first | rfl | (simp; done) | (simp only [← hji12] <;> (first | rfl | simp)) | (simp [*]; done)), H', ⟨by have := HK1.out; first | omega | exact Nat.le_refl _⟩, by repeat (first | exact Drawn0.refl _ | apply Drawn0.step)⟩
        ·rw [if_neg c11] at H
         exact absurd H (by simp)
       ·rw [if_neg c9] at H
        have c9b0 : decide ((wrap64 (x12_1 - a1)) < a3) = false := decide_eq_false c9
        clear c9
        (first | rw [c9b0] | (simp only [i64_w, i32_w]; rw [c9b0]) | skip)
        have H' := Aside0.mk H
        clear H
        go_wp2
        go_meet
        case rel => exact ⟨_, (false), (by first | rfl | (simp; done) | (simp [*]; done)), H', ⟨by have := HK1.out; first | omega | exact Nat.le_refl _⟩, by repeat (first | exact Drawn0.refl _ | apply Drawn0.step)⟩
      case rest =>
       clear HC8
       try clear c1
       try clear c2
       try clear p2
       try clear c5
       try clear c5b0
       try clear c5b1
       try clear c6
       try clear c6b0
       try clear c6b1
       try clear p6
       try clear c7
       try clear c7b0
       try clear c9
       try clear c9b0
       try clear c11
       try clear c11b0
       try clear c11b1
       try clear p2
       obtain ⟨kq, x36_7, rfl, HA, HJ7, ⟨mc7, rfl⟩⟩ := hcut
       cases kq with
       | zero => exact absurd HA.out (by simp [signalbenchlaw04_flip.j1])
       | succ kj7 =>
        have H := HA.out
        clear HA
        simp only [signalbenchlaw04_flip.j1] at H
        by_cases c13 : x36_7 = true
        ·subst c13
         have H1 : (if 0 ≤ x12_1 then (if x12_1 < (a0.size : Int) then (if (bt a0 x12_1) = 48 then (if x10_1.size + 1 ≤ 9223372036854775807 then (signalbenchlaw04_flip.l0 kj7 a0 a1 a2 a3 (x10_1 ++ (⟨#[49]⟩ : ByteArray)) true (wrap64 (x12_1 + 1))) else (none)) else (if x10_1.size + 1 ≤ 9223372036854775807 then (signalbenchlaw04_flip.l0 kj7 a0 a1 a2 a3 (x10_1 ++ (⟨#[48]⟩ : ByteArray)) true (wrap64 (x12_1 + 1))) else (none))) else (none)) else (none)) = some (r1, r2) := by rw [if_pos rfl] at H; exact H
         clear H
         have H := H1
         clear H1
         by_cases c14 : 0 ≤ x12_1
         ·rw [if_pos c14] at H
          have c14b0 : decide (0 ≤ x12_1) = true := decide_eq_true c14
          clear c14
          by_cases c15 : x12_1 < (a0.size : Int)
          ·rw [if_pos c15] at H
           have c15b0 : decide (x12_1 < (a0.size : Int)) = true := decide_eq_true c15
           clear c15
           by_cases c17 : (bt a0 x12_1) = 48
           ·rw [if_pos c17] at H
            have c17b0 : ((bt a0 x12_1) == 48) = true := beq_iff_eq.mpr c17
            have c17b1 : ((bt a0 x12_1) != 48) = false := bne_eq_false_iff_eq.mpr c17
            clear c17
            by_cases c18 : x10_1.size + 1 ≤ 9223372036854775807
            ·rw [if_pos c18] at H
             have c18b0 := eq_true c18
             have c18b1 : decide (x10_1.size + 1 ≤ 9223372036854775807) = true := decide_eq_true c18
             try have c18b2 : (9223372036854775807 < x10_1.size + 1) = False := eq_false (Nat.not_lt.2 c18)
             have H' := Aside0.mk H
             clear H
             have p16 : 0 ≤ (x12_1 : Int) := of_decide_eq_true (by first | (with_reducible assumption) | assumption)
             have q16 : x12_1 < (a0.size : Int) := of_decide_eq_true (by first | (with_reducible assumption) | assumption)
             have hx16 := bt_at a0 x12_1
             replace p16 := eq_true p16
             replace q16 := eq_true q16
             go_wp2
             go_roundg kj7
             case measure => have := HK1.out; have := HJ7.out; omega
             case rel => exact ⟨(x10_1 ++ (⟨#[49]⟩ : ByteArray)), (true), (wrap64 (x12_1 + 1)), (by first | rfl | (simp; done) | (simp [*]; done)), (by first | rfl | (simp; done) | (simp [*]; done)), (by first | rfl | (simp; done) | (simp [*]; done)), H', ⟨by have := HK1.out; have := HJ7.out; omega⟩, by repeat (first | exact Drawn0.refl _ | apply Drawn0.step)⟩
            ·rw [if_neg c18] at H
             exact absurd H (by simp)
           ·rw [if_neg c17] at H
            have c17b0 : ((bt a0 x12_1) == 48) = false := beq_eq_false_iff_ne.mpr c17
            have c17b1 : ((bt a0 x12_1) != 48) = true := bne_iff_ne.mpr c17
            by_cases c19 : x10_1.size + 1 ≤ 9223372036854775807
            ·rw [if_pos c19] at H
             have c19b0 := eq_true c19
             have c19b1 : decide (x10_1.size + 1 ≤ 9223372036854775807) = true := decide_eq_true c19
             try have c19b2 : (9223372036854775807 < x10_1.size + 1) = False := eq_false (Nat.not_lt.2 c19)
             have H' := Aside0.mk H
             clear H
             have p16 : 0 ≤ (x12_1 : Int) := of_decide_eq_true (by first | (with_reducible assumption) | assumption)
             have q16 : x12_1 < (a0.size : Int) := of_decide_eq_true (by first | (with_reducible assumption) | assumption)
             have hx16 := bt_at a0 x12_1
             replace p16 := eq_true p16
             replace q16 := eq_true q16
             go_wp2
             go_roundg kj7
             case measure => have := HK1.out; have := HJ7.out; omega
             case rel => exact ⟨(x10_1 ++ (⟨#[48]⟩ : ByteArray)), (true), (wrap64 (x12_1 + 1)), (by first | rfl | (simp; done) | (simp [*]; done)), (by first | rfl | (simp; done) | (simp [*]; done)), (by first | rfl | (simp; done) | (simp [*]; done)), H', ⟨by have := HK1.out; have := HJ7.out; omega⟩, by repeat (first | exact Drawn0.refl _ | apply Drawn0.step)⟩
            ·rw [if_neg c19] at H
             exact absurd H (by simp)
          ·rw [if_neg c15] at H
           exact absurd H (by simp)
         ·rw [if_neg c14] at H
          exact absurd H (by simp)
        ·replace c13 := Bool.eq_false_iff.mpr c13
         subst c13
         have H1 : (if 0 ≤ x12_1 then (if x12_1 ≤ (wrap64 (x12_1 + 1)) then (if (wrap64 (x12_1 + 1)) ≤ (a0.size : Int) then (if x10_1.size + (a0.extract (x12_1 : Int).toNat ((wrap64 (x12_1 + 1)) : Int).toNat).size ≤ 9223372036854775807 then (signalbenchlaw04_flip.l0 kj7 a0 a1 a2 a3 (x10_1 ++ (a0.extract (x12_1 : Int).toNat ((wrap64 (x12_1 + 1)) : Int).toNat)) x11_1 (wrap64 (x12_1 + 1))) else (none)) else (none)) else (none)) else (none)) = some (r1, r2) := by rw [if_neg (show ¬ (false = true) by decide)] at H; exact H
         clear H
         have H := H1
         clear H1
         by_cases c20 : 0 ≤ x12_1
         ·rw [if_pos c20] at H
          have c20b0 := eq_true c20
          have c20b1 : decide (0 ≤ x12_1) = true := decide_eq_true c20
          clear c20
          by_cases c21 : x12_1 ≤ (wrap64 (x12_1 + 1))
          ·rw [if_pos c21] at H
           have c21b0 := eq_true c21
           have c21b1 : decide (x12_1 ≤ (wrap64 (x12_1 + 1))) = true := decide_eq_true c21
           by_cases c22 : (wrap64 (x12_1 + 1)) ≤ (a0.size : Int)
           ·rw [if_pos c22] at H
            have c22b0 := eq_true c22
            have c22b1 : decide ((wrap64 (x12_1 + 1)) ≤ (a0.size : Int)) = true := decide_eq_true c22
            by_cases c23 : x10_1.size + (a0.extract (x12_1 : Int).toNat ((wrap64 (x12_1 + 1)) : Int).toNat).size ≤ 9223372036854775807
            ·rw [if_pos c23] at H
             have c23b0 := eq_true c23
             have c23b1 : decide (x10_1.size + (a0.extract (x12_1 : Int).toNat ((wrap64 (x12_1 + 1)) : Int).toNat).size ≤ 9223372036854775807) = true := decide_eq_true c23
             try have c23b2 : (9223372036854775807 < x10_1.size + (a0.extract (x12_1 : Int).toNat ((wrap64 (x12_1 + 1)) : Int).toNat).size) = False := eq_false (Nat.not_lt.2 c23)
             have H' := Aside0.mk H
             clear H
             go_wp2
             go_roundg kj7
             case measure => have := HK1.out; have := HJ7.out; omega
             case rel => exact ⟨(x10_1 ++ (a0.extract (x12_1 : Int).toNat ((wrap64 (x12_1 + 1)) : Int).toNat)), (x11_1), (wrap64 (x12_1 + 1)), (by first | rfl | (simp; done) | (simp [*]; done)), (by first | rfl | (simp; done) | (simp [*]; done)), (by first | rfl | (simp; done) | (simp [*]; done)), H', ⟨by have := HK1.out; have := HJ7.out; omega⟩, by repeat (first | exact Drawn0.refl _ | apply Drawn0.step)⟩
            ·rw [if_neg c23] at H
             exact absurd H (by simp)
           ·rw [if_neg c22] at H
            exact absurd H (by simp)
          ·rw [if_neg c21] at H
           exact absurd H (by simp)
         ·rw [if_neg c20] at H
          exact absurd H (by simp)
     ·rw [if_neg c7] at H
      have c7b0 : decide (x12_1 < (a0.size : Int)) = false := decide_eq_false c7
      clear c7
      simp only [Option.some.injEq, Prod.mk.injEq] at H
      obtain ⟨rfl, rfl⟩ := H
      go_wp2
      go_ret2
      exact ⟨by first | rfl | (simp; done) | (simp [*]; done), by repeat (first | exact Drawn0.refl _ | apply Drawn0.step)⟩
  ·rw [if_neg c6] at H
   exact absurd H (by simp)
 ·rw [if_neg c5] at H
  exact absurd H (by simp)

/-! ### signalbenchlaw04_CheckDetects: function 7 -/
def signalbenchlaw04_CheckDetects.j0 : Nat → ByteArray → Int → Int → Bool → Int → Int → Int → Int → Bool → Option (Bool)
 | 0, _, _, _, _, _, _, _, _, _ => none
 | k + 1, x1, x7, x8, x45, x140000, x140001, x140002, x140003, x140004 => if x45 = true then ((signalbenchlaw04_awake.f k).bind fun t143 => (some t143)) else ((signalbenchlaw04_flip.f k x1 x7 x8 x140000).bind fun bt144 => ((check_Bits.f k x140000 x140001 x140002 x140003 x140004 x1).bind fun bt146 => ((check_Bits.f k x140000 x140001 x140002 x140003 x140004 bt144.1).bind fun bt148 => (if bt146.2 = 0 then (if bt148.2 = 0 then (if ((bt146.1 != bt148.1) == bt144.2) = true then ((signalbenchlaw04_awake.f k).bind fun t150 => (some t150)) else (some false)) else (some false)) else (some false)))))
def signalbenchlaw04_CheckDetects.f (k : Nat) (a0_0 : Int) (a0_1 : Int) (a0_2 : Int) (a0_3 : Int) (a0_4 : Bool) (a1 : ByteArray) (a2_0 : Int) (a2_1 : Int) : Option (Bool) := (signalbenchref04_Right.f a0_0 a0_1 a0_2 a0_3 a0_4).bind fun t141 => (if t141 = true then (if (a1.size : Int) > 200 then (signalbenchlaw04_CheckDetects.j0 k a1 a2_0 a2_1 true a0_0 a0_1 a0_2 a0_3 a0_4) else ((signalbenchlaw04_sound.f k a1).bind fun t142 => (if t142 = true then (if a2_0 < 0 then (signalbenchlaw04_CheckDetects.j0 k a1 a2_0 a2_1 true a0_0 a0_1 a0_2 a0_3 a0_4) else (if a2_0 ≥ (a1.size : Int) then (signalbenchlaw04_CheckDetects.j0 k a1 a2_0 a2_1 true a0_0 a0_1 a0_2 a0_3 a0_4) else (signalbenchlaw04_CheckDetects.j0 k a1 a2_0 a2_1 (decide (a2_1 < 0)) a0_0 a0_1 a0_2 a0_3 a0_4))) else (signalbenchlaw04_CheckDetects.j0 k a1 a2_0 a2_1 true a0_0 a0_1 a0_2 a0_3 a0_4)))) else (signalbenchlaw04_CheckDetects.j0 k a1 a2_0 a2_1 true a0_0 a0_1 a0_2 a0_3 a0_4))
theorem signalbenchlaw04_CheckDetects.mono_l : ∀ k, (∀ y0 y1 y2 y3 y4 y5 y6 y7 y8, LeO (signalbenchlaw04_CheckDetects.j0 k y0 y1 y2 y3 y4 y5 y6 y7 y8) (signalbenchlaw04_CheckDetects.j0 (k + 1) y0 y1 y2 y3 y4 y5 y6 y7 y8))
 | 0 => fun _ _ _ _ _ _ _ _ _ r h => by simp [signalbenchlaw04_CheckDetects.j0] at h
 | k + 1 => by
  have ih0 := signalbenchlaw04_CheckDetects.mono_l k
  ·intro y0 y1 y2 y3 y4 y5 y6 y7 y8
   unfold signalbenchlaw04_CheckDetects.j0
   repeat' first
   | (with_reducible exact ih0 _ _ _ _ _ _ _ _ _)
   | (with_reducible exact check_Bits.mono _ _ _ _ _ _ _)
   | (with_reducible exact signalbenchlaw04_awake.mono _)
   | (with_reducible exact signalbenchlaw04_flip.mono _ _ _ _ _)
   | (with_reducible exact signalbenchlaw04_sound.mono _ _)
   | (with_reducible exact LeO.refl _)
   | (with_reducible exact LeO.none _)
   | (with_reducible refine LeO.ite ?_ ?_)
   | (with_reducible refine LeO.bind ?_ (fun _ => ?_))
   | exact ih0 _ _ _ _ _ _ _ _ _
   | exact check_Bits.mono _ _ _ _ _ _ _
   | exact signalbenchlaw04_awake.mono _
   | exact signalbenchlaw04_flip.mono _ _ _ _ _
   | exact signalbenchlaw04_sound.mono _ _
   | exact LeO.none _
   | refine LeO.ite ?_ ?_
   | refine LeO.bind ?_ (fun _ => ?_)
theorem signalbenchlaw04_CheckDetects.mono : ∀ a0 a1 a2 a3 a4 a5 a6 a7 k, LeO (signalbenchlaw04_CheckDetects.f k a0 a1 a2 a3 a4 a5 a6 a7) (signalbenchlaw04_CheckDetects.f (k + 1) a0 a1 a2 a3 a4 a5 a6 a7) := by
 intro a0 a1 a2 a3 a4 a5 a6 a7 k
 have ih0 := signalbenchlaw04_CheckDetects.mono_l k
 unfold signalbenchlaw04_CheckDetects.f
 repeat' first
   | (with_reducible exact ih0 _ _ _ _ _ _ _ _ _)
   | (with_reducible exact check_Bits.mono _ _ _ _ _ _ _)
   | (with_reducible exact signalbenchlaw04_awake.mono _)
   | (with_reducible exact signalbenchlaw04_flip.mono _ _ _ _ _)
   | (with_reducible exact signalbenchlaw04_sound.mono _ _)
   | (with_reducible exact LeO.refl _)
   | (with_reducible exact LeO.none _)
   | (with_reducible refine LeO.ite ?_ ?_)
   | (with_reducible refine LeO.bind ?_ (fun _ => ?_))
   | exact ih0 _ _ _ _ _ _ _ _ _
   | exact check_Bits.mono _ _ _ _ _ _ _
   | exact signalbenchlaw04_awake.mono _
   | exact signalbenchlaw04_flip.mono _ _ _ _ _
   | exact signalbenchlaw04_sound.mono _ _
   | exact LeO.none _
   | refine LeO.ite ?_ ?_
   | refine LeO.bind ?_ (fun _ => ?_)
set_option maxHeartbeats 8000000 in
set_option maxRecDepth 100000 in
theorem signalbenchlaw04_CheckDetects.calls (k : Nat) (a0_0 : Int) (a0_1 : Int) (a0_2 : Int) (a0_3 : Int) (a0_4 : Bool) (a1 : ByteArray) (a2_0 : Int) (a2_1 : Int) (r : Bool) (w : World) (hT_ : TabOk w) (h : signalbenchlaw04_CheckDetects.f k a0_0 a0_1 a0_2 a0_3 a0_4 a1 a2_0 a2_1 = some r) :
  Calls Tryd.prog 7 #[.agg #[.int .i64 a0_0, .int .i64 a0_1, .int .i64 a0_2, .int .i64 a0_3, .bool a0_4], .string a1, .agg #[.int .i64 a2_0, .int .i64 a2_1]] w fun e w' => e = .returned (.bool r) ∧ Below w.heap.size w w' := by
 have hu23 := Tryd.underlying23
 have hu33 := Tryd.underlying33
 have HB := Aside0.mk (Below.refl w.heap.size w)
 have H : ((signalbenchref04_Right.f a0_0 a0_1 a0_2 a0_3 a0_4).bind fun t141 => (if t141 = true then (if (a1.size : Int) > 200 then (signalbenchlaw04_CheckDetects.j0 k a1 a2_0 a2_1 true a0_0 a0_1 a0_2 a0_3 a0_4) else ((signalbenchlaw04_sound.f k a1).bind fun t142 => (if t142 = true then (if a2_0 < 0 then (signalbenchlaw04_CheckDetects.j0 k a1 a2_0 a2_1 true a0_0 a0_1 a0_2 a0_3 a0_4) else (if a2_0 ≥ (a1.size : Int) then (signalbenchlaw04_CheckDetects.j0 k a1 a2_0 a2_1 true a0_0 a0_1 a0_2 a0_3 a0_4) else (signalbenchlaw04_CheckDetects.j0 k a1 a2_0 a2_1 (decide (a2_1 < 0)) a0_0 a0_1 a0_2 a0_3 a0_4))) else (signalbenchlaw04_CheckDetects.j0 k a1 a2_0 a2_1 true a0_0 a0_1 a0_2 a0_3 a0_4)))) else (signalbenchlaw04_CheckDetects.j0 k a1 a2_0 a2_1 true a0_0 a0_1 a0_2 a0_3 a0_4))) = some r := h
 clear h
 have HC4 := Aside0.mk H
 clear H
 go_enter Tryd.func7, Tryd.ntmps7
 go_upto_region 2 with (first | ((with_reducible refine gate_dst (N := 3) rfl ?_); (try (refine gate_guard (by first | rfl | (go_simp; done)) ?_; dsimp only)); refine box_event ?hg (N := 3) ?hd (cs := #[.int .i64 a0_0, .int .i64 a0_1, .int .i64 a0_2, .int .i64 a0_3, .bool a0_4]) (t := 23) ?hr ?_; (case hd => rfl); (case hg => rfl); (case hr => first | (go_simp; done) | (go_simp; rfl)); intro gb139 hg w5 hbox hb; have n0_ := Aside0.mk (below_step (hbw HB.out) hb); have n1_ := Aside0.mk (hbox); have n2_ := Aside0.mk ((by rw [hg]; exact (below_size (hbw HB.out)) : w.heap.size ≤ gb139)); have n3_ := Aside0.mk ((by rw [hg]; exact (below_size (hbw HB.out)) : w.heap.size ≤ gb139)); clear HB; have HB := n0_; have BK139 := n1_; have GW139 := n2_; have GE139 := n3_; clear n0_ n1_ n2_ n3_; clear hb hbox hg) | ((with_reducible refine gate_dst (N := 5) rfl ?_); (try (refine gate_guard (by first | rfl | (go_simp; done)) ?_; dsimp only)); refine box_event ?hg (N := 5) ?hd (cs := #[.int .i64 a2_0, .int .i64 a2_1]) (t := 33) ?hr ?_; (case hd => rfl); (case hg => rfl); (case hr => first | (go_simp; done) | (go_simp; rfl)); intro gb140 hg w6 hbox hb; have n0_ := Aside0.mk (blkb BK139.out hb); have n1_ := Aside0.mk (below_step (hbw HB.out) hb); have n2_ := Aside0.mk (hbox); have n3_ := Aside0.mk ((by rw [hg]; exact (below_size (hbw HB.out)) : w.heap.size ≤ gb140)); have n4_ := Aside0.mk ((by rw [hg]; exact (below_size (hbw HB.out)) : w.heap.size ≤ gb140)); have n5_ := Aside0.mk ((by rw [hg]; exact Nat.ne_of_lt (blkl BK139.out) : gb139 ≠ gb140)); have n6_ := Aside0.mk ((by rw [hg]; exact Nat.ne_of_gt (blkl BK139.out) : gb140 ≠ gb139)); clear BK139; clear HB; have BK139 := n0_; have HB := n1_; have BK140 := n2_; have GW140 := n3_; have GE140 := n4_; have NB139_140 := n5_; have NB140_139 := n6_; clear n0_ n1_ n2_ n3_ n4_ n5_ n6_; clear hb hbox hg; have hnb7 := NB140_139.out; have hnc7 := NB139_140.out; have hcz8_0 : w6.cell? ⟨gb140, 0, none⟩ = some (.int .i64 a2_0) := (blk_cell BK140.out 0).trans rfl; have hcz8_1 : w6.cell? ⟨gb140, 1, none⟩ = some (.int .i64 a2_1) := (blk_cell BK140.out 1).trans rfl; have hfz8_0 := blk_frozen BK140.out 0; have hfz8_1 := blk_frozen BK140.out 1))
 repeat (go_quiet (first | ((with_reducible refine gate_dst (N := 3) rfl ?_); (try (refine gate_guard (by first | rfl | (go_simp; done)) ?_; dsimp only)); refine box_event ?hg (N := 3) ?hd (cs := #[.int .i64 a0_0, .int .i64 a0_1, .int .i64 a0_2, .int .i64 a0_3, .bool a0_4]) (t := 23) ?hr ?_; (case hd => rfl); (case hg => rfl); (case hr => first | (go_simp; done) | (go_simp; rfl)); intro gb139 hg w5 hbox hb; have n0_ := Aside0.mk (below_step (hbw HB.out) hb); have n1_ := Aside0.mk (hbox); have n2_ := Aside0.mk ((by rw [hg]; exact (below_size (hbw HB.out)) : w.heap.size ≤ gb139)); have n3_ := Aside0.mk ((by rw [hg]; exact (below_size (hbw HB.out)) : w.heap.size ≤ gb139)); clear HB; have HB := n0_; have BK139 := n1_; have GW139 := n2_; have GE139 := n3_; clear n0_ n1_ n2_ n3_; clear hb hbox hg) | ((with_reducible refine gate_dst (N := 5) rfl ?_); (try (refine gate_guard (by first | rfl | (go_simp; done)) ?_; dsimp only)); refine box_event ?hg (N := 5) ?hd (cs := #[.int .i64 a2_0, .int .i64 a2_1]) (t := 33) ?hr ?_; (case hd => rfl); (case hg => rfl); (case hr => first | (go_simp; done) | (go_simp; rfl)); intro gb140 hg w6 hbox hb; have n0_ := Aside0.mk (blkb BK139.out hb); have n1_ := Aside0.mk (below_step (hbw HB.out) hb); have n2_ := Aside0.mk (hbox); have n3_ := Aside0.mk ((by rw [hg]; exact (below_size (hbw HB.out)) : w.heap.size ≤ gb140)); have n4_ := Aside0.mk ((by rw [hg]; exact (below_size (hbw HB.out)) : w.heap.size ≤ gb140)); have n5_ := Aside0.mk ((by rw [hg]; exact Nat.ne_of_lt (blkl BK139.out) : gb139 ≠ gb140)); have n6_ := Aside0.mk ((by rw [hg]; exact Nat.ne_of_gt (blkl BK139.out) : gb140 ≠ gb139)); clear BK139; clear HB; have BK139 := n0_; have HB := n1_; have BK140 := n2_; have GW140 := n3_; have GE140 := n4_; have NB139_140 := n5_; have NB140_139 := n6_; clear n0_ n1_ n2_ n3_ n4_ n5_ n6_; clear hb hbox hg; have hnb7 := NB140_139.out; have hnc7 := NB139_140.out; have hcz8_0 : w6.cell? ⟨gb140, 0, none⟩ = some (.int .i64 a2_0) := (blk_cell BK140.out 0).trans rfl; have hcz8_1 : w6.cell? ⟨gb140, 1, none⟩ = some (.int .i64 a2_1) := (blk_cell BK140.out 1).trans rfl; have hfz8_0 := blk_frozen BK140.out 0; have hfz8_1 := blk_frozen BK140.out 1)); go_upto_region 2 with (first | ((with_reducible refine gate_dst (N := 3) rfl ?_); (try (refine gate_guard (by first | rfl | (go_simp; done)) ?_; dsimp only)); refine box_event ?hg (N := 3) ?hd (cs := #[.int .i64 a0_0, .int .i64 a0_1, .int .i64 a0_2, .int .i64 a0_3, .bool a0_4]) (t := 23) ?hr ?_; (case hd => rfl); (case hg => rfl); (case hr => first | (go_simp; done) | (go_simp; rfl)); intro gb139 hg w5 hbox hb; have n0_ := Aside0.mk (below_step (hbw HB.out) hb); have n1_ := Aside0.mk (hbox); have n2_ := Aside0.mk ((by rw [hg]; exact (below_size (hbw HB.out)) : w.heap.size ≤ gb139)); have n3_ := Aside0.mk ((by rw [hg]; exact (below_size (hbw HB.out)) : w.heap.size ≤ gb139)); clear HB; have HB := n0_; have BK139 := n1_; have GW139 := n2_; have GE139 := n3_; clear n0_ n1_ n2_ n3_; clear hb hbox hg) | ((with_reducible refine gate_dst (N := 5) rfl ?_); (try (refine gate_guard (by first | rfl | (go_simp; done)) ?_; dsimp only)); refine box_event ?hg (N := 5) ?hd (cs := #[.int .i64 a2_0, .int .i64 a2_1]) (t := 33) ?hr ?_; (case hd => rfl); (case hg => rfl); (case hr => first | (go_simp; done) | (go_simp; rfl)); intro gb140 hg w6 hbox hb; have n0_ := Aside0.mk (blkb BK139.out hb); have n1_ := Aside0.mk (below_step (hbw HB.out) hb); have n2_ := Aside0.mk (hbox); have n3_ := Aside0.mk ((by rw [hg]; exact (below_size (hbw HB.out)) : w.heap.size ≤ gb140)); have n4_ := Aside0.mk ((by rw [hg]; exact (below_size (hbw HB.out)) : w.heap.size ≤ gb140)); have n5_ := Aside0.mk ((by rw [hg]; exact Nat.ne_of_lt (blkl BK139.out) : gb139 ≠ gb140)); have n6_ := Aside0.mk ((by rw [hg]; exact Nat.ne_of_gt (blkl BK139.out) : gb140 ≠ gb139)); clear BK139; clear HB; have BK139 := n0_; have HB := n1_; have BK140 := n2_; have GW140 := n3_; have GE140 := n4_; have NB139_140 := n5_; have NB140_139 := n6_; clear n0_ n1_ n2_ n3_ n4_ n5_ n6_; clear hb hbox hg; have hnb7 := NB140_139.out; have hnc7 := NB139_140.out; have hcz8_0 : w6.cell? ⟨gb140, 0, none⟩ = some (.int .i64 a2_0) := (blk_cell BK140.out 0).trans rfl; have hcz8_1 : w6.cell? ⟨gb140, 1, none⟩ = some (.int .i64 a2_1) := (blk_cell BK140.out 1).trans rfl; have hfz8_0 := blk_frozen BK140.out 0; have hfz8_1 := blk_frozen BK140.out 1)))
 (try simp only [Act.put, List.setIfInBounds_toArray, List.set_cons_zero, List.set_cons_succ])
 go_cut [45] (fun v45 wc => ∃ (kq : Nat) (x45_3 : Bool), v45 = .bool x45_3 ∧ Aside0 (signalbenchlaw04_CheckDetects.j0 kq a1 a2_0 a2_1 x45_3 a0_0 a0_1 a0_2 a0_3 a0_4 = some r) ∧ Aside0 (kq ≤ k) ∧ Aside0 (wc.heap[gb139]? = some (.cells #[.int .i64 a0_0, .int .i64 a0_1, .int .i64 a0_2, .int .i64 a0_3, .bool a0_4] 23 (0, 0))) ∧ Aside0 (wc.heap[gb140]? = some (.cells #[.int .i64 a2_0, .int .i64 a2_1] 33 (0, 0))) ∧ Aside0 (Below w.heap.size w wc))
 case first =>
  have H := HC4.out
  clear HC4
  replace H := Option.bind_eq_some_iff.mp H
  obtain ⟨t141, A90, H⟩ := H
  replace H : (if t141 = true then (if (a1.size : Int) > 200 then (signalbenchlaw04_CheckDetects.j0 k a1 a2_0 a2_1 true a0_0 a0_1 a0_2 a0_3 a0_4) else ((signalbenchlaw04_sound.f k a1).bind fun t142 => (if t142 = true then (if a2_0 < 0 then (signalbenchlaw04_CheckDetects.j0 k a1 a2_0 a2_1 true a0_0 a0_1 a0_2 a0_3 a0_4) else (if a2_0 ≥ (a1.size : Int) then (signalbenchlaw04_CheckDetects.j0 k a1 a2_0 a2_1 true a0_0 a0_1 a0_2 a0_3 a0_4) else (signalbenchlaw04_CheckDetects.j0 k a1 a2_0 a2_1 (decide (a2_1 < 0)) a0_0 a0_1 a0_2 a0_3 a0_4))) else (signalbenchlaw04_CheckDetects.j0 k a1 a2_0 a2_1 true a0_0 a0_1 a0_2 a0_3 a0_4)))) else (signalbenchlaw04_CheckDetects.j0 k a1 a2_0 a2_1 true a0_0 a0_1 a0_2 a0_3 a0_4)) = some r := H
  have A9 := Aside0.mk A90
  clear A90
  by_cases c10 : t141 = true
  ·subst c10
   have H1 : (if (a1.size : Int) > 200 then (signalbenchlaw04_CheckDetects.j0 k a1 a2_0 a2_1 true a0_0 a0_1 a0_2 a0_3 a0_4) else ((signalbenchlaw04_sound.f k a1).bind fun t142 => (if t142 = true then (if a2_0 < 0 then (signalbenchlaw04_CheckDetects.j0 k a1 a2_0 a2_1 true a0_0 a0_1 a0_2 a0_3 a0_4) else (if a2_0 ≥ (a1.size : Int) then (signalbenchlaw04_CheckDetects.j0 k a1 a2_0 a2_1 true a0_0 a0_1 a0_2 a0_3 a0_4) else (signalbenchlaw04_CheckDetects.j0 k a1 a2_0 a2_1 (decide (a2_1 < 0)) a0_0 a0_1 a0_2 a0_3 a0_4))) else (signalbenchlaw04_CheckDetects.j0 k a1 a2_0 a2_1 true a0_0 a0_1 a0_2 a0_3 a0_4)))) = some r := by rw [if_pos rfl] at H; exact H
   clear H
   have H := H1
   clear H1
   by_cases c11 : (a1.size : Int) > 200
   ·rw [if_pos c11] at H
    have c11b0 : decide (200 < (a1.size : Int)) = true := decide_eq_true c11
    have c11b1 : decide (200 < a1.size) = true := decide_eq_true (by omega)
    clear c11
    (first | rw [c11b0] | (simp only [i64_w, i32_w]; rw [c11b0]) | skip)
    have H' := Aside0.mk H
    clear H
    have hnb12 := NB139_140.out
    have hnc12 := NB140_139.out
    have hcz13_0 : w6.cell? ⟨gb139, 0, none⟩ = some (.int .i64 a0_0) := (blk_cell BK139.out 0).trans rfl
    have hcz13_1 : w6.cell? ⟨gb139, 1, none⟩ = some (.int .i64 a0_1) := (blk_cell BK139.out 1).trans rfl
    have hcz13_2 : w6.cell? ⟨gb139, 2, none⟩ = some (.int .i64 a0_2) := (blk_cell BK139.out 2).trans rfl
    have hcz13_3 : w6.cell? ⟨gb139, 3, none⟩ = some (.int .i64 a0_3) := (blk_cell BK139.out 3).trans rfl
    have hcz13_4 : w6.cell? ⟨gb139, 4, none⟩ = some (.bool a0_4) := (blk_cell BK139.out 4).trans rfl
    have hfz13_0 := blk_frozen BK139.out 0
    have hfz13_1 := blk_frozen BK139.out 1
    have hfz13_2 := blk_frozen BK139.out 2
    have hfz13_3 := blk_frozen BK139.out 3
    have hfz13_4 := blk_frozen BK139.out 4
    go_wp2_with (first | (go_at_call 23; (with_reducible refine (signalbenchref04_Right.calls a0_0 a0_1 a0_2 a0_3 a0_4 true _ A9.out).mono ?_); rintro e w14 ⟨rfl, hb⟩; have n0_ := Aside0.mk (blkb BK139.out hb); have n1_ := Aside0.mk (blkb BK140.out hb); have n2_ := Aside0.mk (below_step (hbw HB.out) hb); clear BK139; clear BK140; clear HB; have BK139 := n0_; have BK140 := n1_; have HB := n2_; clear n0_ n1_ n2_; (try clear hb); (try clear hb2); (try clear hk); (try clear hi)))
    repeat (go_quiet (first | (go_at_call 23; (with_reducible refine (signalbenchref04_Right.calls a0_0 a0_1 a0_2 a0_3 a0_4 true _ A9.out).mono ?_); rintro e w14 ⟨rfl, hb⟩; have n0_ := Aside0.mk (blkb BK139.out hb); have n1_ := Aside0.mk (blkb BK140.out hb); have n2_ := Aside0.mk (below_step (hbw HB.out) hb); clear BK139; clear BK140; clear HB; have BK139 := n0_; have BK140 := n1_; have HB := n2_; clear n0_ n1_ n2_; (try clear hb); (try clear hb2); (try clear hk); (try clear hi))); try go_wp2_with (first | (go_at_call 23; (with_reducible refine (signalbenchref04_Right.calls a0_0 a0_1 a0_2 a0_3 a0_4 true _ A9.out).mono ?_); rintro e w14 ⟨rfl, hb⟩; have n0_ := Aside0.mk (blkb BK139.out hb); have n1_ := Aside0.mk (blkb BK140.out hb); have n2_ := Aside0.mk (below_step (hbw HB.out) hb); clear BK139; clear BK140; clear HB; have BK139 := n0_; have BK140 := n1_; have HB := n2_; clear n0_ n1_ n2_; (try clear hb); (try clear hb2); (try clear hk); (try clear hi))))
    go_meet
    case rel => exact ⟨_, (true), (by first | rfl | (simp; done) | (simp [*]; done)), H', ⟨by first | omega | exact Nat.le_refl _⟩, ⟨by (with_reducible repeat (first | refine blk_drewN ?_ _ | refine blk_drew ?_ | refine blk_alloc ?_ _)); exact BK139.out⟩, ⟨by (with_reducible repeat (first | refine blk_drewN ?_ _ | refine blk_drew ?_ | refine blk_alloc ?_ _)); exact BK140.out⟩, ⟨by repeat (first | (with_reducible first | exact HB.out | apply below_alloc | apply pw_below_drewN | apply below_drew1 | refine below_set ?_ GE139.out | refine below_set ?_ GE140.out) | exact HB.out)⟩⟩
   ·rw [if_neg c11] at H
    have c11b0 : decide (200 < (a1.size : Int)) = false := decide_eq_false c11
    have c11b1 : decide (200 < a1.size) = false := decide_eq_false (by omega)
    clear c11
    (first | rw [c11b0] | (simp only [i64_w, i32_w]; rw [c11b0]) | skip)
    replace H := Option.bind_eq_some_iff.mp H
    obtain ⟨t142, A150, H⟩ := H
    replace H : (if t142 = true then (if a2_0 < 0 then (signalbenchlaw04_CheckDetects.j0 k a1 a2_0 a2_1 true a0_0 a0_1 a0_2 a0_3 a0_4) else (if a2_0 ≥ (a1.size : Int) then (signalbenchlaw04_CheckDetects.j0 k a1 a2_0 a2_1 true a0_0 a0_1 a0_2 a0_3 a0_4) else (signalbenchlaw04_CheckDetects.j0 k a1 a2_0 a2_1 (decide (a2_1 < 0)) a0_0 a0_1 a0_2 a0_3 a0_4))) else (signalbenchlaw04_CheckDetects.j0 k a1 a2_0 a2_1 true a0_0 a0_1 a0_2 a0_3 a0_4)) = some r := H
    have A15 := Aside0.mk A150
    clear A150
    by_cases c16 : t142 = true
    ·subst c16
     have H1 : (if a2_0 < 0 then (signalbenchlaw04_CheckDetects.j0 k a1 a2_0 a2_1 true a0_0 a0_1 a0_2 a0_3 a0_4) else (if a2_0 ≥ (a1.size : Int) then (signalbenchlaw04_CheckDetects.j0 k a1 a2_0 a2_1 true a0_0 a0_1 a0_2 a0_3 a0_4) else (signalbenchlaw04_CheckDetects.j0 k a1 a2_0 a2_1 (decide (a2_1 < 0)) a0_0 a0_1 a0_2 a0_3 a0_4))) = some r := by rw [if_pos rfl] at H; exact H
     clear H
     have H := H1
     clear H1
     by_cases c17 : a2_0 < 0
     ·rw [if_pos c17] at H
      have c17b0 : decide (a2_0 < 0) = true := decide_eq_true c17
      clear c17
      have H' := Aside0.mk H
      clear H
      have hnb18 := NB139_140.out
      have hnc18 := NB140_139.out
      have hcz19_0 : w6.cell? ⟨gb139, 0, none⟩ = some (.int .i64 a0_0) := (blk_cell BK139.out 0).trans rfl
      have hcz19_1 : w6.cell? ⟨gb139, 1, none⟩ = some (.int .i64 a0_1) := (blk_cell BK139.out 1).trans rfl
      have hcz19_2 : w6.cell? ⟨gb139, 2, none⟩ = some (.int .i64 a0_2) := (blk_cell BK139.out 2).trans rfl
      have hcz19_3 : w6.cell? ⟨gb139, 3, none⟩ = some (.int .i64 a0_3) := (blk_cell BK139.out 3).trans rfl
      have hcz19_4 : w6.cell? ⟨gb139, 4, none⟩ = some (.bool a0_4) := (blk_cell BK139.out 4).trans rfl
      have hfz19_0 := blk_frozen BK139.out 0
      have hfz19_1 := blk_frozen BK139.out 1
      have hfz19_2 := blk_frozen BK139.out 2
      have hfz19_3 := blk_frozen BK139.out 3
      have hfz19_4 := blk_frozen BK139.out 4
      go_wp2_with (first | (go_at_call 23; (with_reducible refine (signalbenchref04_Right.calls a0_0 a0_1 a0_2 a0_3 a0_4 true _ A9.out).mono ?_); rintro e w20 ⟨rfl, hb⟩; have n0_ := Aside0.mk (blkb BK139.out hb); have n1_ := Aside0.mk (blkb BK140.out hb); have n2_ := Aside0.mk (below_step (hbw HB.out) hb); clear BK139; clear BK140; clear HB; have BK139 := n0_; have BK140 := n1_; have HB := n2_; clear n0_ n1_ n2_; (try clear hb); (try clear hb2); (try clear hk); (try clear hi)) | (go_at_call 24; (with_reducible refine (signalbenchlaw04_sound.calls k a1 true _ A15.out).mono ?_); rintro e w' ⟨rfl, ⟨nd, rfl⟩⟩; (try first | exact ⟨rfl, _, World.drewN_drewN _ _ _⟩ | exact ⟨rfl, _, Eq.trans (World.drewN_drewN _ _ _) (congrArg (World.drewN _) (Nat.add_assoc _ _ _))⟩)))
      repeat (go_quiet (first | (go_at_call 23; (with_reducible refine (signalbenchref04_Right.calls a0_0 a0_1 a0_2 a0_3 a0_4 true _ A9.out).mono ?_); rintro e w20 ⟨rfl, hb⟩; have n0_ := Aside0.mk (blkb BK139.out hb); have n1_ := Aside0.mk (blkb BK140.out hb); have n2_ := Aside0.mk (below_step (hbw HB.out) hb); clear BK139; clear BK140; clear HB; have BK139 := n0_; have BK140 := n1_; have HB := n2_; clear n0_ n1_ n2_; (try clear hb); (try clear hb2); (try clear hk); (try clear hi)) | (go_at_call 24; (with_reducible refine (signalbenchlaw04_sound.calls k a1 true _ A15.out).mono ?_); rintro e w' ⟨rfl, ⟨nd, rfl⟩⟩; (try first | exact ⟨rfl, _, World.drewN_drewN _ _ _⟩ | exact ⟨rfl, _, Eq.trans (World.drewN_drewN _ _ _) (congrArg (World.drewN _) (Nat.add_assoc _ _ _))⟩))); try go_wp2_with (first | (go_at_call 23; (with_reducible refine (signalbenchref04_Right.calls a0_0 a0_1 a0_2 a0_3 a0_4 true _ A9.out).mono ?_); rintro e w20 ⟨rfl, hb⟩; have n0_ := Aside0.mk (blkb BK139.out hb); have n1_ := Aside0.mk (blkb BK140.out hb); have n2_ := Aside0.mk (below_step (hbw HB.out) hb); clear BK139; clear BK140; clear HB; have BK139 := n0_; have BK140 := n1_; have HB := n2_; clear n0_ n1_ n2_; (try clear hb); (try clear hb2); (try clear hk); (try clear hi)) | (go_at_call 24; (with_reducible refine (signalbenchlaw04_sound.calls k a1 true _ A15.out).mono ?_); rintro e w' ⟨rfl, ⟨nd, rfl⟩⟩; (try first | exact ⟨rfl, _, World.drewN_drewN _ _ _⟩ | exact ⟨rfl, _, Eq.trans (World.drewN_drewN _ _ _) (congrArg (World.drewN _) (Nat.add_assoc _ _ _))⟩))))
      go_meet
      case rel => exact ⟨_, (true), (by first | rfl | (simp; done) | (simp [*]; done)), H', ⟨by first | omega | exact Nat.le_refl _⟩, ⟨by (with_reducible repeat (first | refine blk_drewN ?_ _ | refine blk_drew ?_ | refine blk_alloc ?_ _)); exact BK139.out⟩, ⟨by (with_reducible repeat (first | refine blk_drewN ?_ _ | refine blk_drew ?_ | refine blk_alloc ?_ _)); exact BK140.out⟩, ⟨by repeat (first | (with_reducible first | exact HB.out | apply below_alloc | apply pw_below_drewN | apply below_drew1 | refine below_set ?_ GE139.out | refine below_set ?_ GE140.out) | exact HB.out)⟩⟩
     ·rw [if_neg c17] at H
      have c17b0 : decide (a2_0 < 0) = false := decide_eq_false c17
      clear c17
      by_cases c21 : a2_0 ≥ (a1.size : Int)
      ·rw [if_pos c21] at H
       have c21b0 : decide ((a1.size : Int) ≤ a2_0) = true := decide_eq_true c21
       clear c21
       have H' := Aside0.mk H
       clear H
       have hnb22 := NB139_140.out
       have hnc22 := NB140_139.out
       have hcz23_0 : w6.cell? ⟨gb139, 0, none⟩ = some (.int .i64 a0_0) := (blk_cell BK139.out 0).trans rfl
       have hcz23_1 : w6.cell? ⟨gb139, 1, none⟩ = some (.int .i64 a0_1) := (blk_cell BK139.out 1).trans rfl
       have hcz23_2 : w6.cell? ⟨gb139, 2, none⟩ = some (.int .i64 a0_2) := (blk_cell BK139.out 2).trans rfl
       have hcz23_3 : w6.cell? ⟨gb139, 3, none⟩ = some (.int .i64 a0_3) := (blk_cell BK139.out 3).trans rfl
       have hcz23_4 : w6.cell? ⟨gb139, 4, none⟩ = some (.bool a0_4) := (blk_cell BK139.out 4).trans rfl
       have hfz23_0 := blk_frozen BK139.out 0
       have hfz23_1 := blk_frozen BK139.out 1
       have hfz23_2 := blk_frozen BK139.out 2
       have hfz23_3 := blk_frozen BK139.out 3
       have hfz23_4 := blk_frozen BK139.out 4
       go_wp2_with (first | (go_at_call 23; (with_reducible refine (signalbenchref04_Right.calls a0_0 a0_1 a0_2 a0_3 a0_4 true _ A9.out).mono ?_); rintro e w24 ⟨rfl, hb⟩; have n0_ := Aside0.mk (blkb BK139.out hb); have n1_ := Aside0.mk (blkb BK140.out hb); have n2_ := Aside0.mk (below_step (hbw HB.out) hb); clear BK139; clear BK140; clear HB; have BK139 := n0_; have BK140 := n1_; have HB := n2_; clear n0_ n1_ n2_; (try clear hb); (try clear hb2); (try clear hk); (try clear hi)) | (go_at_call 24; (with_reducible refine (signalbenchlaw04_sound.calls k a1 true _ A15.out).mono ?_); rintro e w' ⟨rfl, ⟨nd, rfl⟩⟩; (try first | exact ⟨rfl, _, World.drewN_drewN _ _ _⟩ | exact ⟨rfl, _, Eq.trans (World.drewN_drewN _ _ _) (congrArg (World.drewN _) (Nat.add_assoc _ _ _))⟩)))
       repeat (go_quiet (first | (go_at_call 23; (with_reducible refine (signalbenchref04_Right.calls a0_0 a0_1 a0_2 a0_3 a0_4 true _ A9.out).mono ?_); rintro e w24 ⟨rfl, hb⟩; have n0_ := Aside0.mk (blkb BK139.out hb); have n1_ := Aside0.mk (blkb BK140.out hb); have n2_ := Aside0.mk (below_step (hbw HB.out) hb); clear BK139; clear BK140; clear HB; have BK139 := n0_; have BK140 := n1_; have HB := n2_; clear n0_ n1_ n2_; (try clear hb); (try clear hb2); (try clear hk); (try clear hi)) | (go_at_call 24; (with_reducible refine (signalbenchlaw04_sound.calls k a1 true _ A15.out).mono ?_); rintro e w' ⟨rfl, ⟨nd, rfl⟩⟩; (try first | exact ⟨rfl, _, World.drewN_drewN _ _ _⟩ | exact ⟨rfl, _, Eq.trans (World.drewN_drewN _ _ _) (congrArg (World.drewN _) (Nat.add_assoc _ _ _))⟩))); try go_wp2_with (first | (go_at_call 23; (with_reducible refine (signalbenchref04_Right.calls a0_0 a0_1 a0_2 a0_3 a0_4 true _ A9.out).mono ?_); rintro e w24 ⟨rfl, hb⟩; have n0_ := Aside0.mk (blkb BK139.out hb); have n1_ := Aside0.mk (blkb BK140.out hb); have n2_ := Aside0.mk (below_step (hbw HB.out) hb); clear BK139; clear BK140; clear HB; have BK139 := n0_; have BK140 := n1_; have HB := n2_; clear n0_ n1_ n2_; (try clear hb); (try clear hb2); (try clear hk); (try clear hi)) | (go_at_call 24; (with_reducible refine (signalbenchlaw04_sound.calls k a1 true _ A15.out).mono ?_); rintro e w' ⟨rfl, ⟨nd, rfl⟩⟩; (try first | exact ⟨rfl, _, World.drewN_drewN _ _ _⟩ | exact ⟨rfl, _, Eq.trans (World.drewN_drewN _ _ _) (congrArg (World.drewN _) (Nat.add_assoc _ _ _))⟩))))
       go_meet
       case rel => exact ⟨_, (true), (by first | rfl | (simp; done) | (simp [*]; done)), H', ⟨by first | omega | exact Nat.le_refl _⟩, ⟨by (with_reducible repeat (first | refine blk_drewN ?_ _ | refine blk_drew ?_ | refine blk_alloc ?_ _)); exact BK139.out⟩, ⟨by (with_reducible repeat (first | refine blk_drewN ?_ _ | refine blk_drew ?_ | refine blk_alloc ?_ _)); exact BK140.out⟩, ⟨by repeat (first | (with_reducible first | exact HB.out | apply below_alloc | apply pw_below_drewN | apply below_drew1 | refine below_set ?_ GE139.out | refine below_set ?_ GE140.out) | exact HB.out)⟩⟩
      ·rw [if_neg c21] at H
       have c21b0 : decide ((a1.size : Int) ≤ a2_0) = false := decide_eq_false c21
       clear c21
       have H' := Aside0.mk H
       clear H
       have hnb25 := NB139_140.out
       have hnc25 := NB140_139.out
       have hcz26_0 : w6.cell? ⟨gb139, 0, none⟩ = some (.int .i64 a0_0) := (blk_cell BK139.out 0).trans rfl
       have hcz26_1 : w6.cell? ⟨gb139, 1, none⟩ = some (.int .i64 a0_1) := (blk_cell BK139.out 1).trans rfl
       have hcz26_2 : w6.cell? ⟨gb139, 2, none⟩ = some (.int .i64 a0_2) := (blk_cell BK139.out 2).trans rfl
       have hcz26_3 : w6.cell? ⟨gb139, 3, none⟩ = some (.int .i64 a0_3) := (blk_cell BK139.out 3).trans rfl
       have hcz26_4 : w6.cell? ⟨gb139, 4, none⟩ = some (.bool a0_4) := (blk_cell BK139.out 4).trans rfl
       have hfz26_0 := blk_frozen BK139.out 0
       have hfz26_1 := blk_frozen BK139.out 1
       have hfz26_2 := blk_frozen BK139.out 2
       have hfz26_3 := blk_frozen BK139.out 3
       have hfz26_4 := blk_frozen BK139.out 4
       go_wp2_with (first | (go_at_call 23; (with_reducible refine (signalbenchref04_Right.calls a0_0 a0_1 a0_2 a0_3 a0_4 true _ A9.out).mono ?_); rintro e w27 ⟨rfl, hb⟩; have n0_ := Aside0.mk (blkb BK139.out hb); have n1_ := Aside0.mk (blkb BK140.out hb); have n2_ := Aside0.mk (below_step (hbw HB.out) hb); clear BK139; clear BK140; clear HB; have BK139 := n0_; have BK140 := n1_; have HB := n2_; clear n0_ n1_ n2_; (try clear hb); (try clear hb2); (try clear hk); (try clear hi)) | (go_at_call 24; (with_reducible refine (signalbenchlaw04_sound.calls k a1 true _ A15.out).mono ?_); rintro e w' ⟨rfl, ⟨nd, rfl⟩⟩; (try first | exact ⟨rfl, _, World.drewN_drewN _ _ _⟩ | exact ⟨rfl, _, Eq.trans (World.drewN_drewN _ _ _) (congrArg (World.drewN _) (Nat.add_assoc _ _ _))⟩)))
       repeat (go_quiet (first | (go_at_call 23; (with_reducible refine (signalbenchref04_Right.calls a0_0 a0_1 a0_2 a0_3 a0_4 true _ A9.out).mono ?_); rintro e w27 ⟨rfl, hb⟩; have n0_ := Aside0.mk (blkb BK139.out hb); have n1_ := Aside0.mk (blkb BK140.out hb); have n2_ := Aside0.mk (below_step (hbw HB.out) hb); clear BK139; clear BK140; clear HB; have BK139 := n0_; have BK140 := n1_; have HB := n2_; clear n0_ n1_ n2_; (try clear hb); (try clear hb2); (try clear hk); (try clear hi)) | (go_at_call 24; (with_reducible refine (signalbenchlaw04_sound.calls k a1 true _ A15.out).mono ?_); rintro e w' ⟨rfl, ⟨nd, rfl⟩⟩; (try first | exact ⟨rfl, _, World.drewN_drewN _ _ _⟩ | exact ⟨rfl, _, Eq.trans (World.drewN_drewN _ _ _) (congrArg (World.drewN _) (Nat.add_assoc _ _ _))⟩))); try go_wp2_with (first | (go_at_call 23; (with_reducible refine (signalbenchref04_Right.calls a0_0 a0_1 a0_2 a0_3 a0_4 true _ A9.out).mono ?_); rintro e w27 ⟨rfl, hb⟩; have n0_ := Aside0.mk (blkb BK139.out hb); have n1_ := Aside0.mk (blkb BK140.out hb); have n2_ := Aside0.mk (below_step (hbw HB.out) hb); clear BK139; clear BK140; clear HB; have BK139 := n0_; have BK140 := n1_; have HB := n2_; clear n0_ n1_ n2_; (try clear hb); (try clear hb2); (try clear hk); (try clear hi)) | (go_at_call 24; (with_reducible refine (signalbenchlaw04_sound.calls k a1 true _ A15.out).mono ?_); rintro e w' ⟨rfl, ⟨nd, rfl⟩⟩; (try first | exact ⟨rfl, _, World.drewN_drewN _ _ _⟩ | exact ⟨rfl, _, Eq.trans (World.drewN_drewN _ _ _) (congrArg (World.drewN _) (Nat.add_assoc _ _ _))⟩))))
       go_meet
       case rel => exact ⟨_, (decide (a2_1 < 0)), (by first | rfl | (simp; done) | (simp [*]; done)), H', ⟨by first | omega | exact Nat.le_refl _⟩, ⟨by (with_reducible repeat (first | refine blk_drewN ?_ _ | refine blk_drew ?_ | refine blk_alloc ?_ _)); exact BK139.out⟩, ⟨by (with_reducible repeat (first | refine blk_drewN ?_ _ | refine blk_drew ?_ | refine blk_alloc ?_ _)); exact BK140.out⟩, ⟨by repeat (first | (with_reducible first | exact HB.out | apply below_alloc | apply pw_below_drewN | apply below_drew1 | refine below_set ?_ GE139.out | refine below_set ?_ GE140.out) | exact HB.out)⟩⟩
    ·replace c16 := Bool.eq_false_iff.mpr c16
     subst c16
     have H1 : (signalbenchlaw04_CheckDetects.j0 k a1 a2_0 a2_1 true a0_0 a0_1 a0_2 a0_3 a0_4) = some r := by rw [if_neg (show ¬ (false = true) by decide)] at H; exact H
     clear H
     have H := H1
     clear H1
     have H' := Aside0.mk H
     clear H
     have hnb28 := NB139_140.out
     have hnc28 := NB140_139.out
     have hcz29_0 : w6.cell? ⟨gb139, 0, none⟩ = some (.int .i64 a0_0) := (blk_cell BK139.out 0).trans rfl
     have hcz29_1 : w6.cell? ⟨gb139, 1, none⟩ = some (.int .i64 a0_1) := (blk_cell BK139.out 1).trans rfl
     have hcz29_2 : w6.cell? ⟨gb139, 2, none⟩ = some (.int .i64 a0_2) := (blk_cell BK139.out 2).trans rfl
     have hcz29_3 : w6.cell? ⟨gb139, 3, none⟩ = some (.int .i64 a0_3) := (blk_cell BK139.out 3).trans rfl
     have hcz29_4 : w6.cell? ⟨gb139, 4, none⟩ = some (.bool a0_4) := (blk_cell BK139.out 4).trans rfl
     have hfz29_0 := blk_frozen BK139.out 0
     have hfz29_1 := blk_frozen BK139.out 1
     have hfz29_2 := blk_frozen BK139.out 2
     have hfz29_3 := blk_frozen BK139.out 3
     have hfz29_4 := blk_frozen BK139.out 4
     go_wp2_with (first | (go_at_call 23; (with_reducible refine (signalbenchref04_Right.calls a0_0 a0_1 a0_2 a0_3 a0_4 true _ A9.out).mono ?_); rintro e w30 ⟨rfl, hb⟩; have n0_ := Aside0.mk (blkb BK139.out hb); have n1_ := Aside0.mk (blkb BK140.out hb); have n2_ := Aside0.mk (below_step (hbw HB.out) hb); clear BK139; clear BK140; clear HB; have BK139 := n0_; have BK140 := n1_; have HB := n2_; clear n0_ n1_ n2_; (try clear hb); (try clear hb2); (try clear hk); (try clear hi)) | (go_at_call 24; (with_reducible refine (signalbenchlaw04_sound.calls k a1 false _ A15.out).mono ?_); rintro e w' ⟨rfl, ⟨nd, rfl⟩⟩; (try first | exact ⟨rfl, _, World.drewN_drewN _ _ _⟩ | exact ⟨rfl, _, Eq.trans (World.drewN_drewN _ _ _) (congrArg (World.drewN _) (Nat.add_assoc _ _ _))⟩)))
     repeat (go_quiet (first | (go_at_call 23; (with_reducible refine (signalbenchref04_Right.calls a0_0 a0_1 a0_2 a0_3 a0_4 true _ A9.out).mono ?_); rintro e w30 ⟨rfl, hb⟩; have n0_ := Aside0.mk (blkb BK139.out hb); have n1_ := Aside0.mk (blkb BK140.out hb); have n2_ := Aside0.mk (below_step (hbw HB.out) hb); clear BK139; clear BK140; clear HB; have BK139 := n0_; have BK140 := n1_; have HB := n2_; clear n0_ n1_ n2_; (try clear hb); (try clear hb2); (try clear hk); (try clear hi)) | (go_at_call 24; (with_reducible refine (signalbenchlaw04_sound.calls k a1 false _ A15.out).mono ?_); rintro e w' ⟨rfl, ⟨nd, rfl⟩⟩; (try first | exact ⟨rfl, _, World.drewN_drewN _ _ _⟩ | exact ⟨rfl, _, Eq.trans (World.drewN_drewN _ _ _) (congrArg (World.drewN _) (Nat.add_assoc _ _ _))⟩))); try go_wp2_with (first | (go_at_call 23; (with_reducible refine (signalbenchref04_Right.calls a0_0 a0_1 a0_2 a0_3 a0_4 true _ A9.out).mono ?_); rintro e w30 ⟨rfl, hb⟩; have n0_ := Aside0.mk (blkb BK139.out hb); have n1_ := Aside0.mk (blkb BK140.out hb); have n2_ := Aside0.mk (below_step (hbw HB.out) hb); clear BK139; clear BK140; clear HB; have BK139 := n0_; have BK140 := n1_; have HB := n2_; clear n0_ n1_ n2_; (try clear hb); (try clear hb2); (try clear hk); (try clear hi)) | (go_at_call 24; (with_reducible refine (signalbenchlaw04_sound.calls k a1 false _ A15.out).mono ?_); rintro e w' ⟨rfl, ⟨nd, rfl⟩⟩; (try first | exact ⟨rfl, _, World.drewN_drewN _ _ _⟩ | exact ⟨rfl, _, Eq.trans (World.drewN_drewN _ _ _) (congrArg (World.drewN _) (Nat.add_assoc _ _ _))⟩))))
     go_meet
     case rel => exact ⟨_, (true), (by first | rfl | (simp; done) | (simp [*]; done)), H', ⟨by first | omega | exact Nat.le_refl _⟩, ⟨by (with_reducible repeat (first | refine blk_drewN ?_ _ | refine blk_drew ?_ | refine blk_alloc ?_ _)); exact BK139.out⟩, ⟨by (with_reducible repeat (first | refine blk_drewN ?_ _ | refine blk_drew ?_ | refine blk_alloc ?_ _)); exact BK140.out⟩, ⟨by repeat (first | (with_reducible first | exact HB.out | apply below_alloc | apply pw_below_drewN | apply below_drew1 | refine below_set ?_ GE139.out | refine below_set ?_ GE140.out) | exact HB.out)⟩⟩
  ·replace c10 := Bool.eq_false_iff.mpr c10
   subst c10
   have H1 : (signalbenchlaw04_CheckDetects.j0 k a1 a2_0 a2_1 true a0_0 a0_1 a0_2 a0_3 a0_4) = some r := by rw [if_neg (show ¬ (false = true) by decide)] at H; exact H
   clear H
   have H := H1
   clear H1
   have H' := Aside0.mk H
   clear H
   have hnb31 := NB139_140.out
   have hnc31 := NB140_139.out
   have hcz32_0 : w6.cell? ⟨gb139, 0, none⟩ = some (.int .i64 a0_0) := (blk_cell BK139.out 0).trans rfl
   have hcz32_1 : w6.cell? ⟨gb139, 1, none⟩ = some (.int .i64 a0_1) := (blk_cell BK139.out 1).trans rfl
   have hcz32_2 : w6.cell? ⟨gb139, 2, none⟩ = some (.int .i64 a0_2) := (blk_cell BK139.out 2).trans rfl
   have hcz32_3 : w6.cell? ⟨gb139, 3, none⟩ = some (.int .i64 a0_3) := (blk_cell BK139.out 3).trans rfl
   have hcz32_4 : w6.cell? ⟨gb139, 4, none⟩ = some (.bool a0_4) := (blk_cell BK139.out 4).trans rfl
   have hfz32_0 := blk_frozen BK139.out 0
   have hfz32_1 := blk_frozen BK139.out 1
   have hfz32_2 := blk_frozen BK139.out 2
   have hfz32_3 := blk_frozen BK139.out 3
   have hfz32_4 := blk_frozen BK139.out 4
   go_wp2_with (first | (go_at_call 23; (with_reducible refine (signalbenchref04_Right.calls a0_0 a0_1 a0_2 a0_3 a0_4 false _ A9.out).mono ?_); rintro e w33 ⟨rfl, hb⟩; have n0_ := Aside0.mk (blkb BK139.out hb); have n1_ := Aside0.mk (blkb BK140.out hb); have n2_ := Aside0.mk (below_step (hbw HB.out) hb); clear BK139; clear BK140; clear HB; have BK139 := n0_; have BK140 := n1_; have HB := n2_; clear n0_ n1_ n2_; (try clear hb); (try clear hb2); (try clear hk); (try clear hi)))
   repeat (go_quiet (first | (go_at_call 23; (with_reducible refine (signalbenchref04_Right.calls a0_0 a0_1 a0_2 a0_3 a0_4 false _ A9.out).mono ?_); rintro e w33 ⟨rfl, hb⟩; have n0_ := Aside0.mk (blkb BK139.out hb); have n1_ := Aside0.mk (blkb BK140.out hb); have n2_ := Aside0.mk (below_step (hbw HB.out) hb); clear BK139; clear BK140; clear HB; have BK139 := n0_; have BK140 := n1_; have HB := n2_; clear n0_ n1_ n2_; (try clear hb); (try clear hb2); (try clear hk); (try clear hi))); try go_wp2_with (first | (go_at_call 23; (with_reducible refine (signalbenchref04_Right.calls a0_0 a0_1 a0_2 a0_3 a0_4 false _ A9.out).mono ?_); rintro e w33 ⟨rfl, hb⟩; have n0_ := Aside0.mk (blkb BK139.out hb); have n1_ := Aside0.mk (blkb BK140.out hb); have n2_ := Aside0.mk (below_step (hbw HB.out) hb); clear BK139; clear BK140; clear HB; have BK139 := n0_; have BK140 := n1_; have HB := n2_; clear n0_ n1_ n2_; (try clear hb); (try clear hb2); (try clear hk); (try clear hi))))
   go_meet
   case rel => exact ⟨_, (true), (by first | rfl | (simp; done) | (simp [*]; done)), H', ⟨by first | omega | exact Nat.le_refl _⟩, ⟨by (with_reducible repeat (first | refine blk_drewN ?_ _ | refine blk_drew ?_ | refine blk_alloc ?_ _)); exact BK139.out⟩, ⟨by (with_reducible repeat (first | refine blk_drewN ?_ _ | refine blk_drew ?_ | refine blk_alloc ?_ _)); exact BK140.out⟩, ⟨by repeat (first | (with_reducible first | exact HB.out | apply below_alloc | apply pw_below_drewN | apply below_drew1 | refine below_set ?_ GE139.out | refine below_set ?_ GE140.out) | exact HB.out)⟩⟩
 case rest =>
  clear HC4
  try clear c1
  try clear c2
  try clear p2
  try clear c3
  try clear c7
  try clear c10
  try clear c11
  try clear c11b0
  try clear c11b1
  try clear c12
  try clear c16
  try clear c17
  try clear c17b0
  try clear c18
  try clear c21
  try clear c21b0
  try clear c22
  try clear c25
  try clear c28
  try clear c31
  try clear hcz13_0
  try clear hcz13_1
  try clear hcz13_2
  try clear hcz13_3
  try clear hcz13_4
  try clear hcz19_0
  try clear hcz19_1
  try clear hcz19_2
  try clear hcz19_3
  try clear hcz19_4
  try clear hcz23_0
  try clear hcz23_1
  try clear hcz23_2
  try clear hcz23_3
  try clear hcz23_4
  try clear hcz26_0
  try clear hcz26_1
  try clear hcz26_2
  try clear hcz26_3
  try clear hcz26_4
  try clear hcz29_0
  try clear hcz29_1
  try clear hcz29_2
  try clear hcz29_3
  try clear hcz29_4
  try clear hcz32_0
  try clear hcz32_1
  try clear hcz32_2
  try clear hcz32_3
  try clear hcz32_4
  try clear hcz8_0
  try clear hcz8_1
  try clear hfz13_0
  try clear hfz13_1
  try clear hfz13_2
  try clear hfz13_3
  try clear hfz13_4
  try clear hfz19_0
  try clear hfz19_1
  try clear hfz19_2
  try clear hfz19_3
  try clear hfz19_4
  try clear hfz23_0
  try clear hfz23_1
  try clear hfz23_2
  try clear hfz23_3
  try clear hfz23_4
  try clear hfz26_0
  try clear hfz26_1
  try clear hfz26_2
  try clear hfz26_3
  try clear hfz26_4
  try clear hfz29_0
  try clear hfz29_1
  try clear hfz29_2
  try clear hfz29_3
  try clear hfz29_4
  try clear hfz32_0
  try clear hfz32_1
  try clear hfz32_2
  try clear hfz32_3
  try clear hfz32_4
  try clear hfz8_0
  try clear hfz8_1
  obtain ⟨kq, x45_3, rfl, HA, HJ3, BK139, BK140, HB⟩ := hcut
  cases kq with
  | zero => exact absurd HA.out (by simp [signalbenchlaw04_CheckDetects.j0])
  | succ kj3 =>
   have H := HA.out
   clear HA
   simp only [signalbenchlaw04_CheckDetects.j0] at H
   by_cases c34 : x45_3 = true
   ·subst c34
    have H1 : ((signalbenchlaw04_awake.f kj3).bind fun t143 => (some t143)) = some r := by rw [if_pos rfl] at H; exact H
    clear H
    have H := H1
    clear H1
    replace H := Option.bind_eq_some_iff.mp H
    obtain ⟨t143, A350, H⟩ := H
    replace H : (some t143) = some r := H
    have A35 := Aside0.mk A350
    clear A350
    obtain rfl := Option.some.inj H
    go_wp2_with (first | (go_at_call 11; (with_reducible refine (signalbenchlaw04_awake.calls kj3  t143 _ ?side1 A35.out).mono ?_); (case side1 => refine TabOk.below hT_ ?_; repeat (first | (with_reducible first | exact HB.out | apply below_alloc | apply pw_below_drewN | apply below_drew1 | refine below_set ?_ GE139.out | refine below_set ?_ GE140.out) | exact HB.out)); rintro e w36 ⟨rfl, hb⟩; have n0_ := Aside0.mk (blkb BK139.out hb); have n1_ := Aside0.mk (blkb BK140.out hb); have n2_ := Aside0.mk (below_step (hbw HB.out) hb); clear BK139; clear BK140; clear HB; have BK139 := n0_; have BK140 := n1_; have HB := n2_; clear n0_ n1_ n2_; (try clear hb); (try clear hb2); (try clear hk); (try clear hi)))
    repeat (go_quiet (first | (go_at_call 11; (with_reducible refine (signalbenchlaw04_awake.calls kj3  t143 _ ?side1 A35.out).mono ?_); (case side1 => refine TabOk.below hT_ ?_; repeat (first | (with_reducible first | exact HB.out | apply below_alloc | apply pw_below_drewN | apply below_drew1 | refine below_set ?_ GE139.out | refine below_set ?_ GE140.out) | exact HB.out)); rintro e w36 ⟨rfl, hb⟩; have n0_ := Aside0.mk (blkb BK139.out hb); have n1_ := Aside0.mk (blkb BK140.out hb); have n2_ := Aside0.mk (below_step (hbw HB.out) hb); clear BK139; clear BK140; clear HB; have BK139 := n0_; have BK140 := n1_; have HB := n2_; clear n0_ n1_ n2_; (try clear hb); (try clear hb2); (try clear hk); (try clear hi))); try go_wp2_with (first | (go_at_call 11; (with_reducible refine (signalbenchlaw04_awake.calls kj3  t143 _ ?side1 A35.out).mono ?_); (case side1 => refine TabOk.below hT_ ?_; repeat (first | (with_reducible first | exact HB.out | apply below_alloc | apply pw_below_drewN | apply below_drew1 | refine below_set ?_ GE139.out | refine below_set ?_ GE140.out) | exact HB.out)); rintro e w36 ⟨rfl, hb⟩; have n0_ := Aside0.mk (blkb BK139.out hb); have n1_ := Aside0.mk (blkb BK140.out hb); have n2_ := Aside0.mk (below_step (hbw HB.out) hb); clear BK139; clear BK140; clear HB; have BK139 := n0_; have BK140 := n1_; have HB := n2_; clear n0_ n1_ n2_; (try clear hb); (try clear hb2); (try clear hk); (try clear hi))))
    go_ret
    exact ⟨by first | rfl | (simp [errW_none, errW_some] <;> rfl) | (simp [*, errW_none, errW_some] <;> rfl), by repeat (first | (with_reducible first | exact HB.out | apply below_alloc | apply pw_below_drewN | apply below_drew1 | refine below_set ?_ GE139.out | refine below_set ?_ GE140.out) | exact HB.out)⟩
   ·replace c34 := Bool.eq_false_iff.mpr c34
    subst c34
    have H1 : ((signalbenchlaw04_flip.f kj3 a1 a2_0 a2_1 a0_0).bind fun bt144 => ((check_Bits.f kj3 a0_0 a0_1 a0_2 a0_3 a0_4 a1).bind fun bt146 => ((check_Bits.f kj3 a0_0 a0_1 a0_2 a0_3 a0_4 bt144.1).bind fun bt148 => (if bt146.2 = 0 then (if bt148.2 = 0 then (if ((bt146.1 != bt148.1) == bt144.2) = true then ((signalbenchlaw04_awake.f kj3).bind fun t150 => (some t150)) else (some false)) else (some false)) else (some false))))) = some r := by rw [if_neg (show ¬ (false = true) by decide)] at H; exact H
    clear H
    have H := H1
    clear H1
    replace H := Option.bind_eq_some_iff.mp H
    obtain ⟨⟨t144, t145⟩, A370, H⟩ := H
    replace H : ((check_Bits.f kj3 a0_0 a0_1 a0_2 a0_3 a0_4 a1).bind fun bt146 => ((check_Bits.f kj3 a0_0 a0_1 a0_2 a0_3 a0_4 t144).bind fun bt148 => (if bt146.2 = 0 then (if bt148.2 = 0 then (if ((bt146.1 != bt148.1) == t145) = true then ((signalbenchlaw04_awake.f kj3).bind fun t150 => (some t150)) else (some false)) else (some false)) else (some false)))) = some r := H
    have A37 := Aside0.mk A370
    clear A370
    replace H := Option.bind_eq_some_iff.mp H
    obtain ⟨⟨t146, t147⟩, A380, H⟩ := H
    replace H : ((check_Bits.f kj3 a0_0 a0_1 a0_2 a0_3 a0_4 t144).bind fun bt148 => (if t147 = 0 then (if bt148.2 = 0 then (if ((t146 != bt148.1) == t145) = true then ((signalbenchlaw04_awake.f kj3).bind fun t150 => (some t150)) else (some false)) else (some false)) else (some false))) = some r := H
    have A38 := Aside0.mk A380
    clear A380
    replace H := Option.bind_eq_some_iff.mp H
    obtain ⟨⟨t148, t149⟩, A390, H⟩ := H
    replace H : (if t147 = 0 then (if t149 = 0 then (if ((t146 != t148) == t145) = true then ((signalbenchlaw04_awake.f kj3).bind fun t150 => (some t150)) else (some false)) else (some false)) else (some false)) = some r := H
    have A39 := Aside0.mk A390
    clear A390
    by_cases c40 : t147 = 0
    ·rw [if_pos c40] at H
     have c40b0 : (t147 == 0) = true := beq_iff_eq.mpr c40
     have c40b1 : (t147 != 0) = false := bne_eq_false_iff_eq.mpr c40
     clear c40
     by_cases c41 : t149 = 0
     ·rw [if_pos c41] at H
      have c41b0 : (t149 == 0) = true := beq_iff_eq.mpr c41
      have c41b1 : (t149 != 0) = false := bne_eq_false_iff_eq.mpr c41
      clear c41
      by_cases c42 : ((t146 != t148) == t145) = true
      ·rw [if_pos c42] at H
       have c42b0 : ((t146 != t148) == t145) = true := c42
       (try (have c42b1 : ((!t146 == t148) == t145) = true := by have h_ : ((t146 != t148) == t145) = true := c42; simpa only [bneN] using h_))
       (try (have c42b2 : decide ((t146 != t148) = t145) = true := by simpa using c42))
       (try (have c42b3 : ((t146 != t148) == t145) = true := by simpa using c42))
       clear c42
       replace H := Option.bind_eq_some_iff.mp H
       obtain ⟨t150, A430, H⟩ := H
       replace H : (some t150) = some r := H
       have A43 := Aside0.mk A430
       clear A430
       obtain rfl := Option.some.inj H
       have hnb44 := NB139_140.out
       have hnc44 := NB140_139.out
       have hcz45_0 : wc.cell? ⟨gb139, 0, none⟩ = some (.int .i64 a0_0) := (blk_cell BK139.out 0).trans rfl
       have hcz45_1 : wc.cell? ⟨gb139, 1, none⟩ = some (.int .i64 a0_1) := (blk_cell BK139.out 1).trans rfl
       have hcz45_2 : wc.cell? ⟨gb139, 2, none⟩ = some (.int .i64 a0_2) := (blk_cell BK139.out 2).trans rfl
       have hcz45_3 : wc.cell? ⟨gb139, 3, none⟩ = some (.int .i64 a0_3) := (blk_cell BK139.out 3).trans rfl
       have hcz45_4 : wc.cell? ⟨gb139, 4, none⟩ = some (.bool a0_4) := (blk_cell BK139.out 4).trans rfl
       have hfz45_0 := blk_frozen BK139.out 0
       have hfz45_1 := blk_frozen BK139.out 1
       have hfz45_2 := blk_frozen BK139.out 2
       have hfz45_3 := blk_frozen BK139.out 3
       have hfz45_4 := blk_frozen BK139.out 4
       go_wp2_with (first | (go_at_call 25; (with_reducible refine (signalbenchlaw04_flip.calls kj3 a1 a2_0 a2_1 a0_0 t144 t145 _ A37.out).mono ?_); rintro e w' ⟨rfl, ⟨nd, rfl⟩⟩; (try first | exact ⟨rfl, _, World.drewN_drewN _ _ _⟩ | exact ⟨rfl, _, Eq.trans (World.drewN_drewN _ _ _) (congrArg (World.drewN _) (Nat.add_assoc _ _ _))⟩)) | (go_at_call 12; (with_reducible refine (check_Bits.calls kj3 a0_0 a0_1 a0_2 a0_3 a0_4 a1 t146 t147 _ A38.out).mono ?_); rintro e w46 ⟨rfl, hb⟩; have n0_ := Aside0.mk (blkb BK139.out hb); have n1_ := Aside0.mk (blkb BK140.out hb); have n2_ := Aside0.mk (below_step (hbw HB.out) hb); clear BK139; clear BK140; clear HB; have BK139 := n0_; have BK140 := n1_; have HB := n2_; clear n0_ n1_ n2_; (try clear hb); (try clear hb2); (try clear hk); (try clear hi); have hcz47_0 : w46.cell? ⟨gb139, 0, none⟩ = some (.int .i64 a0_0) := (blk_cell BK139.out 0).trans rfl; have hcz47_1 : w46.cell? ⟨gb139, 1, none⟩ = some (.int .i64 a0_1) := (blk_cell BK139.out 1).trans rfl; have hcz47_2 : w46.cell? ⟨gb139, 2, none⟩ = some (.int .i64 a0_2) := (blk_cell BK139.out 2).trans rfl; have hcz47_3 : w46.cell? ⟨gb139, 3, none⟩ = some (.int .i64 a0_3) := (blk_cell BK139.out 3).trans rfl; have hcz47_4 : w46.cell? ⟨gb139, 4, none⟩ = some (.bool a0_4) := (blk_cell BK139.out 4).trans rfl; have hfz47_0 := blk_frozen BK139.out 0; have hfz47_1 := blk_frozen BK139.out 1; have hfz47_2 := blk_frozen BK139.out 2; have hfz47_3 := blk_frozen BK139.out 3; have hfz47_4 := blk_frozen BK139.out 4) | (go_at_call 12; (with_reducible refine (check_Bits.calls kj3 a0_0 a0_1 a0_2 a0_3 a0_4 t144 t148 t149 _ A39.out).mono ?_); rintro e w48 ⟨rfl, hb⟩; have n0_ := Aside0.mk (blkb BK139.out hb); have n1_ := Aside0.mk (blkb BK140.out hb); have n2_ := Aside0.mk (below_step (hbw HB.out) hb); clear BK139; clear BK140; clear HB; have BK139 := n0_; have BK140 := n1_; have HB := n2_; clear n0_ n1_ n2_; (try clear hb); (try clear hb2); (try clear hk); (try clear hi)) | (go_at_call 11; (with_reducible refine (signalbenchlaw04_awake.calls kj3  t150 _ ?side1 A43.out).mono ?_); (case side1 => refine TabOk.below hT_ ?_; repeat (first | (with_reducible first | exact HB.out | apply below_alloc | apply pw_below_drewN | apply below_drew1 | refine below_set ?_ GE139.out | refine below_set ?_ GE140.out) | exact HB.out)); rintro e w49 ⟨rfl, hb⟩; have n0_ := Aside0.mk (blkb BK139.out hb); have n1_ := Aside0.mk (blkb BK140.out hb); have n2_ := Aside0.mk (below_step (hbw HB.out) hb); clear BK139; clear BK140; clear HB; have BK139 := n0_; have BK140 := n1_; have HB := n2_; clear n0_ n1_ n2_; (try clear hb); (try clear hb2); (try clear hk); (try clear hi)))
       repeat (go_quiet (first | (go_at_call 25; (with_reducible refine (signalbenchlaw04_flip.calls kj3 a1 a2_0 a2_1 a0_0 t144 t145 _ A37.out).mono ?_); rintro e w' ⟨rfl, ⟨nd, rfl⟩⟩; (try first | exact ⟨rfl, _, World.drewN_drewN _ _ _⟩ | exact ⟨rfl, _, Eq.trans (World.drewN_drewN _ _ _) (congrArg (World.drewN _) (Nat.add_assoc _ _ _))⟩)) | (go_at_call 12; (with_reducible refine (check_Bits.calls kj3 a0_0 a0_1 a0_2 a0_3 a0_4 a1 t146 t147 _ A38.out).mono ?_); rintro e w46 ⟨rfl, hb⟩; have n0_ := Aside0.mk (blkb BK139.out hb); have n1_ := Aside0.mk (blkb BK140.out hb); have n2_ := Aside0.mk (below_step (hbw HB.out) hb); clear BK139; clear BK140; clear HB; have BK139 := n0_; have BK140 := n1_; have HB := n2_; clear n0_ n1_ n2_; (try clear hb); (try clear hb2); (try clear hk); (try clear hi); have hcz47_0 : w46.cell? ⟨gb139, 0, none⟩ = some (.int .i64 a0_0) := (blk_cell BK139.out 0).trans rfl; have hcz47_1 : w46.cell? ⟨gb139, 1, none⟩ = some (.int .i64 a0_1) := (blk_cell BK139.out 1).trans rfl; have hcz47_2 : w46.cell? ⟨gb139, 2, none⟩ = some (.int .i64 a0_2) := (blk_cell BK139.out 2).trans rfl; have hcz47_3 : w46.cell? ⟨gb139, 3, none⟩ = some (.int .i64 a0_3) := (blk_cell BK139.out 3).trans rfl; have hcz47_4 : w46.cell? ⟨gb139, 4, none⟩ = some (.bool a0_4) := (blk_cell BK139.out 4).trans rfl; have hfz47_0 := blk_frozen BK139.out 0; have hfz47_1 := blk_frozen BK139.out 1; have hfz47_2 := blk_frozen BK139.out 2; have hfz47_3 := blk_frozen BK139.out 3; have hfz47_4 := blk_frozen BK139.out 4) | (go_at_call 12; (with_reducible refine (check_Bits.calls kj3 a0_0 a0_1 a0_2 a0_3 a0_4 t144 t148 t149 _ A39.out).mono ?_); rintro e w48 ⟨rfl, hb⟩; have n0_ := Aside0.mk (blkb BK139.out hb); have n1_ := Aside0.mk (blkb BK140.out hb); have n2_ := Aside0.mk (below_step (hbw HB.out) hb); clear BK139; clear BK140; clear HB; have BK139 := n0_; have BK140 := n1_; have HB := n2_; clear n0_ n1_ n2_; (try clear hb); (try clear hb2); (try clear hk); (try clear hi)) | (go_at_call 11; (with_reducible refine (signalbenchlaw04_awake.calls kj3  t150 _ ?side1 A43.out).mono ?_); (case side1 => refine TabOk.below hT_ ?_; repeat (first | (with_reducible first | exact HB.out | apply below_alloc | apply pw_below_drewN | apply below_drew1 | refine below_set ?_ GE139.out | refine below_set ?_ GE140.out) | exact HB.out)); rintro e w49 ⟨rfl, hb⟩; have n0_ := Aside0.mk (blkb BK139.out hb); have n1_ := Aside0.mk (blkb BK140.out hb); have n2_ := Aside0.mk (below_step (hbw HB.out) hb); clear BK139; clear BK140; clear HB; have BK139 := n0_; have BK140 := n1_; have HB := n2_; clear n0_ n1_ n2_; (try clear hb); (try clear hb2); (try clear hk); (try clear hi))); try go_wp2_with (first | (go_at_call 25; (with_reducible refine (signalbenchlaw04_flip.calls kj3 a1 a2_0 a2_1 a0_0 t144 t145 _ A37.out).mono ?_); rintro e w' ⟨rfl, ⟨nd, rfl⟩⟩; (try first | exact ⟨rfl, _, World.drewN_drewN _ _ _⟩ | exact ⟨rfl, _, Eq.trans (World.drewN_drewN _ _ _) (congrArg (World.drewN _) (Nat.add_assoc _ _ _))⟩)) | (go_at_call 12; (with_reducible refine (check_Bits.calls kj3 a0_0 a0_1 a0_2 a0_3 a0_4 a1 t146 t147 _ A38.out).mono ?_); rintro e w46 ⟨rfl, hb⟩; have n0_ := Aside0.mk (blkb BK139.out hb); have n1_ := Aside0.mk (blkb BK140.out hb); have n2_ := Aside0.mk (below_step (hbw HB.out) hb); clear BK139; clear BK140; clear HB; have BK139 := n0_; have BK140 := n1_; have HB := n2_; clear n0_ n1_ n2_; (try clear hb); (try clear hb2); (try clear hk); (try clear hi); have hcz47_0 : w46.cell? ⟨gb139, 0, none⟩ = some (.int .i64 a0_0) := (blk_cell BK139.out 0).trans rfl; have hcz47_1 : w46.cell? ⟨gb139, 1, none⟩ = some (.int .i64 a0_1) := (blk_cell BK139.out 1).trans rfl; have hcz47_2 : w46.cell? ⟨gb139, 2, none⟩ = some (.int .i64 a0_2) := (blk_cell BK139.out 2).trans rfl; have hcz47_3 : w46.cell? ⟨gb139, 3, none⟩ = some (.int .i64 a0_3) := (blk_cell BK139.out 3).trans rfl; have hcz47_4 : w46.cell? ⟨gb139, 4, none⟩ = some (.bool a0_4) := (blk_cell BK139.out 4).trans rfl; have hfz47_0 := blk_frozen BK139.out 0; have hfz47_1 := blk_frozen BK139.out 1; have hfz47_2 := blk_frozen BK139.out 2; have hfz47_3 := blk_frozen BK139.out 3; have hfz47_4 := blk_frozen BK139.out 4) | (go_at_call 12; (with_reducible refine (check_Bits.calls kj3 a0_0 a0_1 a0_2 a0_3 a0_4 t144 t148 t149 _ A39.out).mono ?_); rintro e w48 ⟨rfl, hb⟩; have n0_ := Aside0.mk (blkb BK139.out hb); have n1_ := Aside0.mk (blkb BK140.out hb); have n2_ := Aside0.mk (below_step (hbw HB.out) hb); clear BK139; clear BK140; clear HB; have BK139 := n0_; have BK140 := n1_; have HB := n2_; clear n0_ n1_ n2_; (try clear hb); (try clear hb2); (try clear hk); (try clear hi)) | (go_at_call 11; (with_reducible refine (signalbenchlaw04_awake.calls kj3  t150 _ ?side1 A43.out).mono ?_); (case side1 => refine TabOk.below hT_ ?_; repeat (first | (with_reducible first | exact HB.out | apply below_alloc | apply pw_below_drewN | apply below_drew1 | refine below_set ?_ GE139.out | refine below_set ?_ GE140.out) | exact HB.out)); rintro e w49 ⟨rfl, hb⟩; have n0_ := Aside0.mk (blkb BK139.out hb); have n1_ := Aside0.mk (blkb BK140.out hb); have n2_ := Aside0.mk (below_step (hbw HB.out) hb); clear BK139; clear BK140; clear HB; have BK139 := n0_; have BK140 := n1_; have HB := n2_; clear n0_ n1_ n2_; (try clear hb); (try clear hb2); (try clear hk); (try clear hi))))
       go_ret
       exact ⟨by first | rfl | (simp [errW_none, errW_some] <;> rfl) | (simp [*, errW_none, errW_some] <;> rfl), by repeat (first | (with_reducible first | exact HB.out | apply below_alloc | apply pw_below_drewN | apply below_drew1 | refine below_set ?_ GE139.out | refine below_set ?_ GE140.out) | exact HB.out)⟩
      ·rw [if_neg c42] at H
       have c42b0 : ((t146 != t148) == t145) = false := by simpa using c42
       (try (have c42b1 : ((!t146 == t148) == t145) = false := by have h_ : ((t146 != t148) == t145) = false := (by simpa using c42); simpa only [bneN] using h_))
       (try (have c42b2 : decide ((t146 != t148) = t145) = false := by simpa using c42))
       (try (have c42b3 : ((t146 != t148) == t145) = false := by simpa using c42))
       (try (have c42b4 : ¬ ((t146 != t148) = t145) := by simpa using c42))
       clear c42
       obtain rfl := Option.some.inj H
       have hnb50 := NB139_140.out
       have hnc50 := NB140_139.out
       have hcz51_0 : wc.cell? ⟨gb139, 0, none⟩ = some (.int .i64 a0_0) := (blk_cell BK139.out 0).trans rfl
       have hcz51_1 : wc.cell? ⟨gb139, 1, none⟩ = some (.int .i64 a0_1) := (blk_cell BK139.out 1).trans rfl
       have hcz51_2 : wc.cell? ⟨gb139, 2, none⟩ = some (.int .i64 a0_2) := (blk_cell BK139.out 2).trans rfl
       have hcz51_3 : wc.cell? ⟨gb139, 3, none⟩ = some (.int .i64 a0_3) := (blk_cell BK139.out 3).trans rfl
       have hcz51_4 : wc.cell? ⟨gb139, 4, none⟩ = some (.bool a0_4) := (blk_cell BK139.out 4).trans rfl
       have hfz51_0 := blk_frozen BK139.out 0
       have hfz51_1 := blk_frozen BK139.out 1
       have hfz51_2 := blk_frozen BK139.out 2
       have hfz51_3 := blk_frozen BK139.out 3
       have hfz51_4 := blk_frozen BK139.out 4
       go_wp2_with (first | (go_at_call 25; (with_reducible refine (signalbenchlaw04_flip.calls kj3 a1 a2_0 a2_1 a0_0 t144 t145 _ A37.out).mono ?_); rintro e w' ⟨rfl, ⟨nd, rfl⟩⟩; (try first | exact ⟨rfl, _, World.drewN_drewN _ _ _⟩ | exact ⟨rfl, _, Eq.trans (World.drewN_drewN _ _ _) (congrArg (World.drewN _) (Nat.add_assoc _ _ _))⟩)) | (go_at_call 12; (with_reducible refine (check_Bits.calls kj3 a0_0 a0_1 a0_2 a0_3 a0_4 a1 t146 t147 _ A38.out).mono ?_); rintro e w52 ⟨rfl, hb⟩; have n0_ := Aside0.mk (blkb BK139.out hb); have n1_ := Aside0.mk (blkb BK140.out hb); have n2_ := Aside0.mk (below_step (hbw HB.out) hb); clear BK139; clear BK140; clear HB; have BK139 := n0_; have BK140 := n1_; have HB := n2_; clear n0_ n1_ n2_; (try clear hb); (try clear hb2); (try clear hk); (try clear hi); have hcz53_0 : w52.cell? ⟨gb139, 0, none⟩ = some (.int .i64 a0_0) := (blk_cell BK139.out 0).trans rfl; have hcz53_1 : w52.cell? ⟨gb139, 1, none⟩ = some (.int .i64 a0_1) := (blk_cell BK139.out 1).trans rfl; have hcz53_2 : w52.cell? ⟨gb139, 2, none⟩ = some (.int .i64 a0_2) := (blk_cell BK139.out 2).trans rfl; have hcz53_3 : w52.cell? ⟨gb139, 3, none⟩ = some (.int .i64 a0_3) := (blk_cell BK139.out 3).trans rfl; have hcz53_4 : w52.cell? ⟨gb139, 4, none⟩ = some (.bool a0_4) := (blk_cell BK139.out 4).trans rfl; have hfz53_0 := blk_frozen BK139.out 0; have hfz53_1 := blk_frozen BK139.out 1; have hfz53_2 := blk_frozen BK139.out 2; have hfz53_3 := blk_frozen BK139.out 3; have hfz53_4 := blk_frozen BK139.out 4) | (go_at_call 12; (with_reducible refine (check_Bits.calls kj3 a0_0 a0_1 a0_2 a0_3 a0_4 t144 t148 t149 _ A39.out).mono ?_); rintro e w54 ⟨rfl, hb⟩; have n0_ := Aside0.mk (blkb BK139.out hb); have n1_ := Aside0.mk (blkb BK140.out hb); have n2_ := Aside0.mk (below_step (hbw HB.out) hb); clear BK139; clear BK140; clear HB; have BK139 := n0_; have BK140 := n1_; have HB := n2_; clear n0_ n1_ n2_; (try clear hb); (try clear hb2); (try clear hk); (try clear hi)))
       repeat (go_quiet (first | (go_at_call 25; (with_reducible refine (signalbenchlaw04_flip.calls kj3 a1 a2_0 a2_1 a0_0 t144 t145 _ A37.out).mono ?_); rintro e w' ⟨rfl, ⟨nd, rfl⟩⟩; (try first | exact ⟨rfl, _, World.drewN_drewN _ _ _⟩ | exact ⟨rfl, _, Eq.trans (World.drewN_drewN _ _ _) (congrArg (World.drewN _) (Nat.add_assoc _ _ _))⟩)) | (go_at_call 12; (with_reducible refine (check_Bits.calls kj3 a0_0 a0_1 a0_2 a0_3 a0_4 a1 t146 t147 _ A38.out).mono ?_); rintro e w52 ⟨rfl, hb⟩; have n0_ := Aside0.mk (blkb BK139.out hb); have n1_ := Aside0.mk (blkb BK140.out hb); have n2_ := Aside0.mk (below_step (hbw HB.out) hb); clear BK139; clear BK140; clear HB; have BK139 := n0_; have BK140 := n1_; have HB := n2_; clear n0_ n1_ n2_; (try clear hb); (try clear hb2); (try clear hk); (try clear hi); have hcz53_0 : w52.cell? ⟨gb139, 0, none⟩ = some (.int .i64 a0_0) := (blk_cell BK139.out 0).trans rfl; have hcz53_1 : w52.cell? ⟨gb139, 1, none⟩ = some (.int .i64 a0_1) := (blk_cell BK139.out 1).trans rfl; have hcz53_2 : w52.cell? ⟨gb139, 2, none⟩ = some (.int .i64 a0_2) := (blk_cell BK139.out 2).trans rfl; have hcz53_3 : w52.cell? ⟨gb139, 3, none⟩ = some (.int .i64 a0_3) := (blk_cell BK139.out 3).trans rfl; have hcz53_4 : w52.cell? ⟨gb139, 4, none⟩ = some (.bool a0_4) := (blk_cell BK139.out 4).trans rfl; have hfz53_0 := blk_frozen BK139.out 0; have hfz53_1 := blk_frozen BK139.out 1; have hfz53_2 := blk_frozen BK139.out 2; have hfz53_3 := blk_frozen BK139.out 3; have hfz53_4 := blk_frozen BK139.out 4) | (go_at_call 12; (with_reducible refine (check_Bits.calls kj3 a0_0 a0_1 a0_2 a0_3 a0_4 t144 t148 t149 _ A39.out).mono ?_); rintro e w54 ⟨rfl, hb⟩; have n0_ := Aside0.mk (blkb BK139.out hb); have n1_ := Aside0.mk (blkb BK140.out hb); have n2_ := Aside0.mk (below_step (hbw HB.out) hb); clear BK139; clear BK140; clear HB; have BK139 := n0_; have BK140 := n1_; have HB := n2_; clear n0_ n1_ n2_; (try clear hb); (try clear hb2); (try clear hk); (try clear hi))); try go_wp2_with (first | (go_at_call 25; (with_reducible refine (signalbenchlaw04_flip.calls kj3 a1 a2_0 a2_1 a0_0 t144 t145 _ A37.out).mono ?_); rintro e w' ⟨rfl, ⟨nd, rfl⟩⟩; (try first | exact ⟨rfl, _, World.drewN_drewN _ _ _⟩ | exact ⟨rfl, _, Eq.trans (World.drewN_drewN _ _ _) (congrArg (World.drewN _) (Nat.add_assoc _ _ _))⟩)) | (go_at_call 12; (with_reducible refine (check_Bits.calls kj3 a0_0 a0_1 a0_2 a0_3 a0_4 a1 t146 t147 _ A38.out).mono ?_); rintro e w52 ⟨rfl, hb⟩; have n0_ := Aside0.mk (blkb BK139.out hb); have n1_ := Aside0.mk (blkb BK140.out hb); have n2_ := Aside0.mk (below_step (hbw HB.out) hb); clear BK139; clear BK140; clear HB; have BK139 := n0_; have BK140 := n1_; have HB := n2_; clear n0_ n1_ n2_; (try clear hb); (try clear hb2); (try clear hk); (try clear hi); have hcz53_0 : w52.cell? ⟨gb139, 0, none⟩ = some (.int .i64 a0_0) := (blk_cell BK139.out 0).trans rfl; have hcz53_1 : w52.cell? ⟨gb139, 1, none⟩ = some (.int .i64 a0_1) := (blk_cell BK139.out 1).trans rfl; have hcz53_2 : w52.cell? ⟨gb139, 2, none⟩ = some (.int .i64 a0_2) := (blk_cell BK139.out 2).trans rfl; have hcz53_3 : w52.cell? ⟨gb139, 3, none⟩ = some (.int .i64 a0_3) := (blk_cell BK139.out 3).trans rfl; have hcz53_4 : w52.cell? ⟨gb139, 4, none⟩ = some (.bool a0_4) := (blk_cell BK139.out 4).trans rfl; have hfz53_0 := blk_frozen BK139.out 0; have hfz53_1 := blk_frozen BK139.out 1; have hfz53_2 := blk_frozen BK139.out 2; have hfz53_3 := blk_frozen BK139.out 3; have hfz53_4 := blk_frozen BK139.out 4) | (go_at_call 12; (with_reducible refine (check_Bits.calls kj3 a0_0 a0_1 a0_2 a0_3 a0_4 t144 t148 t149 _ A39.out).mono ?_); rintro e w54 ⟨rfl, hb⟩; have n0_ := Aside0.mk (blkb BK139.out hb); have n1_ := Aside0.mk (blkb BK140.out hb); have n2_ := Aside0.mk (below_step (hbw HB.out) hb); clear BK139; clear BK140; clear HB; have BK139 := n0_; have BK140 := n1_; have HB := n2_; clear n0_ n1_ n2_; (try clear hb); (try clear hb2); (try clear hk); (try clear hi))))
       go_ret
       exact ⟨by first | rfl | (simp [errW_none, errW_some] <;> rfl) | (simp [*, errW_none, errW_some] <;> rfl), by repeat (first | (with_reducible first | exact HB.out | apply below_alloc | apply pw_below_drewN | apply below_drew1 | refine below_set ?_ GE139.out | refine below_set ?_ GE140.out) | exact HB.out)⟩
     ·rw [if_neg c41] at H
      have c41b0 : (t149 == 0) = false := beq_eq_false_iff_ne.mpr c41
      have c41b1 : (t149 != 0) = true := bne_iff_ne.mpr c41
      obtain rfl := Option.some.inj H
      have hnb55 := NB139_140.out
      have hnc55 := NB140_139.out
      have hcz56_0 : wc.cell? ⟨gb139, 0, none⟩ = some (.int .i64 a0_0) := (blk_cell BK139.out 0).trans rfl
      have hcz56_1 : wc.cell? ⟨gb139, 1, none⟩ = some (.int .i64 a0_1) := (blk_cell BK139.out 1).trans rfl
      have hcz56_2 : wc.cell? ⟨gb139, 2, none⟩ = some (.int .i64 a0_2) := (blk_cell BK139.out 2).trans rfl
      have hcz56_3 : wc.cell? ⟨gb139, 3, none⟩ = some (.int .i64 a0_3) := (blk_cell BK139.out 3).trans rfl
      have hcz56_4 : wc.cell? ⟨gb139, 4, none⟩ = some (.bool a0_4) := (blk_cell BK139.out 4).trans rfl
      have hfz56_0 := blk_frozen BK139.out 0
      have hfz56_1 := blk_frozen BK139.out 1
      have hfz56_2 := blk_frozen BK139.out 2
      have hfz56_3 := blk_frozen BK139.out 3
      have hfz56_4 := blk_frozen BK139.out 4
      go_wp2_with (first | (go_at_call 25; (with_reducible refine (signalbenchlaw04_flip.calls kj3 a1 a2_0 a2_1 a0_0 t144 t145 _ A37.out).mono ?_); rintro e w' ⟨rfl, ⟨nd, rfl⟩⟩; (try first | exact ⟨rfl, _, World.drewN_drewN _ _ _⟩ | exact ⟨rfl, _, Eq.trans (World.drewN_drewN _ _ _) (congrArg (World.drewN _) (Nat.add_assoc _ _ _))⟩)) | (go_at_call 12; (with_reducible refine (check_Bits.calls kj3 a0_0 a0_1 a0_2 a0_3 a0_4 a1 t146 t147 _ A38.out).mono ?_); rintro e w57 ⟨rfl, hb⟩; have n0_ := Aside0.mk (blkb BK139.out hb); have n1_ := Aside0.mk (blkb BK140.out hb); have n2_ := Aside0.mk (below_step (hbw HB.out) hb); clear BK139; clear BK140; clear HB; have BK139 := n0_; have BK140 := n1_; have HB := n2_; clear n0_ n1_ n2_; (try clear hb); (try clear hb2); (try clear hk); (try clear hi); have hcz58_0 : w57.cell? ⟨gb139, 0, none⟩ = some (.int .i64 a0_0) := (blk_cell BK139.out 0).trans rfl; have hcz58_1 : w57.cell? ⟨gb139, 1, none⟩ = some (.int .i64 a0_1) := (blk_cell BK139.out 1).trans rfl; have hcz58_2 : w57.cell? ⟨gb139, 2, none⟩ = some (.int .i64 a0_2) := (blk_cell BK139.out 2).trans rfl; have hcz58_3 : w57.cell? ⟨gb139, 3, none⟩ = some (.int .i64 a0_3) := (blk_cell BK139.out 3).trans rfl; have hcz58_4 : w57.cell? ⟨gb139, 4, none⟩ = some (.bool a0_4) := (blk_cell BK139.out 4).trans rfl; have hfz58_0 := blk_frozen BK139.out 0; have hfz58_1 := blk_frozen BK139.out 1; have hfz58_2 := blk_frozen BK139.out 2; have hfz58_3 := blk_frozen BK139.out 3; have hfz58_4 := blk_frozen BK139.out 4) | (go_at_call 12; (with_reducible refine (check_Bits.calls kj3 a0_0 a0_1 a0_2 a0_3 a0_4 t144 t148 t149 _ A39.out).mono ?_); rintro e w59 ⟨rfl, hb⟩; have n0_ := Aside0.mk (blkb BK139.out hb); have n1_ := Aside0.mk (blkb BK140.out hb); have n2_ := Aside0.mk (below_step (hbw HB.out) hb); clear BK139; clear BK140; clear HB; have BK139 := n0_; have BK140 := n1_; have HB := n2_; clear n0_ n1_ n2_; (try clear hb); (try clear hb2); (try clear hk); (try clear hi)))
      repeat (go_quiet (first | (go_at_call 25; (with_reducible refine (signalbenchlaw04_flip.calls kj3 a1 a2_0 a2_1 a0_0 t144 t145 _ A37.out).mono ?_); rintro e w' ⟨rfl, ⟨nd, rfl⟩⟩; (try first | exact ⟨rfl, _, World.drewN_drewN _ _ _⟩ | exact ⟨rfl, _, Eq.trans (World.drewN_drewN _ _ _) (congrArg (World.drewN _) (Nat.add_assoc _ _ _))⟩)) | (go_at_call 12; (with_reducible refine (check_Bits.calls kj3 a0_0 a0_1 a0_2 a0_3 a0_4 a1 t146 t147 _ A38.out).mono ?_); rintro e w57 ⟨rfl, hb⟩; have n0_ := Aside0.mk (blkb BK139.out hb); have n1_ := Aside0.mk (blkb BK140.out hb); have n2_ := Aside0.mk (below_step (hbw HB.out) hb); clear BK139; clear BK140; clear HB; have BK139 := n0_; have BK140 := n1_; have HB := n2_; clear n0_ n1_ n2_; (try clear hb); (try clear hb2); (try clear hk); (try clear hi); have hcz58_0 : w57.cell? ⟨gb139, 0, none⟩ = some (.int .i64 a0_0) := (blk_cell BK139.out 0).trans rfl; have hcz58_1 : w57.cell? ⟨gb139, 1, none⟩ = some (.int .i64 a0_1) := (blk_cell BK139.out 1).trans rfl; have hcz58_2 : w57.cell? ⟨gb139, 2, none⟩ = some (.int .i64 a0_2) := (blk_cell BK139.out 2).trans rfl; have hcz58_3 : w57.cell? ⟨gb139, 3, none⟩ = some (.int .i64 a0_3) := (blk_cell BK139.out 3).trans rfl; have hcz58_4 : w57.cell? ⟨gb139, 4, none⟩ = some (.bool a0_4) := (blk_cell BK139.out 4).trans rfl; have hfz58_0 := blk_frozen BK139.out 0; have hfz58_1 := blk_frozen BK139.out 1; have hfz58_2 := blk_frozen BK139.out 2; have hfz58_3 := blk_frozen BK139.out 3; have hfz58_4 := blk_frozen BK139.out 4) | (go_at_call 12; (with_reducible refine (check_Bits.calls kj3 a0_0 a0_1 a0_2 a0_3 a0_4 t144 t148 t149 _ A39.out).mono ?_); rintro e w59 ⟨rfl, hb⟩; have n0_ := Aside0.mk (blkb BK139.out hb); have n1_ := Aside0.mk (blkb BK140.out hb); have n2_ := Aside0.mk (below_step (hbw HB.out) hb); clear BK139; clear BK140; clear HB; have BK139 := n0_; have BK140 := n1_; have HB := n2_; clear n0_ n1_ n2_; (try clear hb); (try clear hb2); (try clear hk); (try clear hi))); try go_wp2_with (first | (go_at_call 25; (with_reducible refine (signalbenchlaw04_flip.calls kj3 a1 a2_0 a2_1 a0_0 t144 t145 _ A37.out).mono ?_); rintro e w' ⟨rfl, ⟨nd, rfl⟩⟩; (try first | exact ⟨rfl, _, World.drewN_drewN _ _ _⟩ | exact ⟨rfl, _, Eq.trans (World.drewN_drewN _ _ _) (congrArg (World.drewN _) (Nat.add_assoc _ _ _))⟩)) | (go_at_call 12; (with_reducible refine (check_Bits.calls kj3 a0_0 a0_1 a0_2 a0_3 a0_4 a1 t146 t147 _ A38.out).mono ?_); rintro e w57 ⟨rfl, hb⟩; have n0_ := Aside0.mk (blkb BK139.out hb); have n1_ := Aside0.mk (blkb BK140.out hb); have n2_ := Aside0.mk (below_step (hbw HB.out) hb); clear BK139; clear BK140; clear HB; have BK139 := n0_; have BK140 := n1_; have HB := n2_; clear n0_ n1_ n2_; (try clear hb); (try clear hb2); (try clear hk); (try clear hi); have hcz58_0 : w57.cell? ⟨gb139, 0, none⟩ = some (.int .i64 a0_0) := (blk_cell BK139.out 0).trans rfl; have hcz58_1 : w57.cell? ⟨gb139, 1, none⟩ = some (.int .i64 a0_1) := (blk_cell BK139.out 1).trans rfl; have hcz58_2 : w57.cell? ⟨gb139, 2, none⟩ = some (.int .i64 a0_2) := (blk_cell BK139.out 2).trans rfl; have hcz58_3 : w57.cell? ⟨gb139, 3, none⟩ = some (.int .i64 a0_3) := (blk_cell BK139.out 3).trans rfl; have hcz58_4 : w57.cell? ⟨gb139, 4, none⟩ = some (.bool a0_4) := (blk_cell BK139.out 4).trans rfl; have hfz58_0 := blk_frozen BK139.out 0; have hfz58_1 := blk_frozen BK139.out 1; have hfz58_2 := blk_frozen BK139.out 2; have hfz58_3 := blk_frozen BK139.out 3; have hfz58_4 := blk_frozen BK139.out 4) | (go_at_call 12; (with_reducible refine (check_Bits.calls kj3 a0_0 a0_1 a0_2 a0_3 a0_4 t144 t148 t149 _ A39.out).mono ?_); rintro e w59 ⟨rfl, hb⟩; have n0_ := Aside0.mk (blkb BK139.out hb); have n1_ := Aside0.mk (blkb BK140.out hb); have n2_ := Aside0.mk (below_step (hbw HB.out) hb); clear BK139; clear BK140; clear HB; have BK139 := n0_; have BK140 := n1_; have HB := n2_; clear n0_ n1_ n2_; (try clear hb); (try clear hb2); (try clear hk); (try clear hi))))
      go_ret
      exact ⟨by first | rfl | (simp [errW_none, errW_some] <;> rfl) | (simp [*, errW_none, errW_some] <;> rfl), by repeat (first | (with_reducible first | exact HB.out | apply below_alloc | apply pw_below_drewN | apply below_drew1 | refine below_set ?_ GE139.out | refine below_set ?_ GE140.out) | exact HB.out)⟩
    ·rw [if_neg c40] at H
     have c40b0 : (t147 == 0) = false := beq_eq_false_iff_ne.mpr c40
     have c40b1 : (t147 != 0) = true := bne_iff_ne.mpr c40
     obtain rfl := Option.some.inj H
     have hnb60 := NB139_140.out
     have hnc60 := NB140_139.out
     have hcz61_0 : wc.cell? ⟨gb139, 0, none⟩ = some (.int .i64 a0_0) := (blk_cell BK139.out 0).trans rfl
     have hcz61_1 : wc.cell? ⟨gb139, 1, none⟩ = some (.int .i64 a0_1) := (blk_cell BK139.out 1).trans rfl
     have hcz61_2 : wc.cell? ⟨gb139, 2, none⟩ = some (.int .i64 a0_2) := (blk_cell BK139.out 2).trans rfl
     have hcz61_3 : wc.cell? ⟨gb139, 3, none⟩ = some (.int .i64 a0_3) := (blk_cell BK139.out 3).trans rfl
     have hcz61_4 : wc.cell? ⟨gb139, 4, none⟩ = some (.bool a0_4) := (blk_cell BK139.out 4).trans rfl
     have hfz61_0 := blk_frozen BK139.out 0
     have hfz61_1 := blk_frozen BK139.out 1
     have hfz61_2 := blk_frozen BK139.out 2
     have hfz61_3 := blk_frozen BK139.out 3
     have hfz61_4 := blk_frozen BK139.out 4
     go_wp2_with (first | (go_at_call 25; (with_reducible refine (signalbenchlaw04_flip.calls kj3 a1 a2_0 a2_1 a0_0 t144 t145 _ A37.out).mono ?_); rintro e w' ⟨rfl, ⟨nd, rfl⟩⟩; (try first | exact ⟨rfl, _, World.drewN_drewN _ _ _⟩ | exact ⟨rfl, _, Eq.trans (World.drewN_drewN _ _ _) (congrArg (World.drewN _) (Nat.add_assoc _ _ _))⟩)) | (go_at_call 12; (with_reducible refine (check_Bits.calls kj3 a0_0 a0_1 a0_2 a0_3 a0_4 a1 t146 t147 _ A38.out).mono ?_); rintro e w62 ⟨rfl, hb⟩; have n0_ := Aside0.mk (blkb BK139.out hb); have n1_ := Aside0.mk (blkb BK140.out hb); have n2_ := Aside0.mk (below_step (hbw HB.out) hb); clear BK139; clear BK140; clear HB; have BK139 := n0_; have BK140 := n1_; have HB := n2_; clear n0_ n1_ n2_; (try clear hb); (try clear hb2); (try clear hk); (try clear hi); have hcz63_0 : w62.cell? ⟨gb139, 0, none⟩ = some (.int .i64 a0_0) := (blk_cell BK139.out 0).trans rfl; have hcz63_1 : w62.cell? ⟨gb139, 1, none⟩ = some (.int .i64 a0_1) := (blk_cell BK139.out 1).trans rfl; have hcz63_2 : w62.cell? ⟨gb139, 2, none⟩ = some (.int .i64 a0_2) := (blk_cell BK139.out 2).trans rfl; have hcz63_3 : w62.cell? ⟨gb139, 3, none⟩ = some (.int .i64 a0_3) := (blk_cell BK139.out 3).trans rfl; have hcz63_4 : w62.cell? ⟨gb139, 4, none⟩ = some (.bool a0_4) := (blk_cell BK139.out 4).trans rfl; have hfz63_0 := blk_frozen BK139.out 0; have hfz63_1 := blk_frozen BK139.out 1; have hfz63_2 := blk_frozen BK139.out 2; have hfz63_3 := blk_frozen BK139.out 3; have hfz63_4 := blk_frozen BK139.out 4) | (go_at_call 12; (with_reducible refine (check_Bits.calls kj3 a0_0 a0_1 a0_2 a0_3 a0_4 t144 t148 t149 _ A39.out).mono ?_); rintro e w64 ⟨rfl, hb⟩; have n0_ := Aside0.mk (blkb BK139.out hb); have n1_ := Aside0.mk (blkb BK140.out hb); have n2_ := Aside0.mk (below_step (hbw HB.out) hb); clear BK139; clear BK140; clear HB; have BK139 := n0_; have BK140 := n1_; have HB := n2_; clear n0_ n1_ n2_; (try clear hb); (try clear hb2); (try clear hk); (try clear hi)))
     repeat (go_quiet (first | (go_at_call 25; (with_reducible refine (signalbenchlaw04_flip.calls kj3 a1 a2_0 a2_1 a0_0 t144 t145 _ A37.out).mono ?_); rintro e w' ⟨rfl, ⟨nd, rfl⟩⟩; (try first | exact ⟨rfl, _, World.drewN_drewN _ _ _⟩ | exact ⟨rfl, _, Eq.trans (World.drewN_drewN _ _ _) (congrArg (World.drewN _) (Nat.add_assoc _ _ _))⟩)) | (go_at_call 12; (with_reducible refine (check_Bits.calls kj3 a0_0 a0_1 a0_2 a0_3 a0_4 a1 t146 t147 _ A38.out).mono ?_); rintro e w62 ⟨rfl, hb⟩; have n0_ := Aside0.mk (blkb BK139.out hb); have n1_ := Aside0.mk (blkb BK140.out hb); have n2_ := Aside0.mk (below_step (hbw HB.out) hb); clear BK139; clear BK140; clear HB; have BK139 := n0_; have BK140 := n1_; have HB := n2_; clear n0_ n1_ n2_; (try clear hb); (try clear hb2); (try clear hk); (try clear hi); have hcz63_0 : w62.cell? ⟨gb139, 0, none⟩ = some (.int .i64 a0_0) := (blk_cell BK139.out 0).trans rfl; have hcz63_1 : w62.cell? ⟨gb139, 1, none⟩ = some (.int .i64 a0_1) := (blk_cell BK139.out 1).trans rfl; have hcz63_2 : w62.cell? ⟨gb139, 2, none⟩ = some (.int .i64 a0_2) := (blk_cell BK139.out 2).trans rfl; have hcz63_3 : w62.cell? ⟨gb139, 3, none⟩ = some (.int .i64 a0_3) := (blk_cell BK139.out 3).trans rfl; have hcz63_4 : w62.cell? ⟨gb139, 4, none⟩ = some (.bool a0_4) := (blk_cell BK139.out 4).trans rfl; have hfz63_0 := blk_frozen BK139.out 0; have hfz63_1 := blk_frozen BK139.out 1; have hfz63_2 := blk_frozen BK139.out 2; have hfz63_3 := blk_frozen BK139.out 3; have hfz63_4 := blk_frozen BK139.out 4) | (go_at_call 12; (with_reducible refine (check_Bits.calls kj3 a0_0 a0_1 a0_2 a0_3 a0_4 t144 t148 t149 _ A39.out).mono ?_); rintro e w64 ⟨rfl, hb⟩; have n0_ := Aside0.mk (blkb BK139.out hb); have n1_ := Aside0.mk (blkb BK140.out hb); have n2_ := Aside0.mk (below_step (hbw HB.out) hb); clear BK139; clear BK140; clear HB; have BK139 := n0_; have BK140 := n1_; have HB := n2_; clear n0_ n1_ n2_; (try clear hb); (try clear hb2); (try clear hk); (try clear hi))); try go_wp2_with (first | (go_at_call 25; (with_reducible refine (signalbenchlaw04_flip.calls kj3 a1 a2_0 a2_1 a0_0 t144 t145 _ A37.out).mono ?_); rintro e w' ⟨rfl, ⟨nd, rfl⟩⟩; (try first | exact ⟨rfl, _, World.drewN_drewN _ _ _⟩ | exact ⟨rfl, _, Eq.trans (World.drewN_drewN _ _ _) (congrArg (World.drewN _) (Nat.add_assoc _ _ _))⟩)) | (go_at_call 12; (with_reducible refine (check_Bits.calls kj3 a0_0 a0_1 a0_2 a0_3 a0_4 a1 t146 t147 _ A38.out).mono ?_); rintro e w62 ⟨rfl, hb⟩; have n0_ := Aside0.mk (blkb BK139.out hb); have n1_ := Aside0.mk (blkb BK140.out hb); have n2_ := Aside0.mk (below_step (hbw HB.out) hb); clear BK139; clear BK140; clear HB; have BK139 := n0_; have BK140 := n1_; have HB := n2_; clear n0_ n1_ n2_; (try clear hb); (try clear hb2); (try clear hk); (try clear hi); have hcz63_0 : w62.cell? ⟨gb139, 0, none⟩ = some (.int .i64 a0_0) := (blk_cell BK139.out 0).trans rfl; have hcz63_1 : w62.cell? ⟨gb139, 1, none⟩ = some (.int .i64 a0_1) := (blk_cell BK139.out 1).trans rfl; have hcz63_2 : w62.cell? ⟨gb139, 2, none⟩ = some (.int .i64 a0_2) := (blk_cell BK139.out 2).trans rfl; have hcz63_3 : w62.cell? ⟨gb139, 3, none⟩ = some (.int .i64 a0_3) := (blk_cell BK139.out 3).trans rfl; have hcz63_4 : w62.cell? ⟨gb139, 4, none⟩ = some (.bool a0_4) := (blk_cell BK139.out 4).trans rfl; have hfz63_0 := blk_frozen BK139.out 0; have hfz63_1 := blk_frozen BK139.out 1; have hfz63_2 := blk_frozen BK139.out 2; have hfz63_3 := blk_frozen BK139.out 3; have hfz63_4 := blk_frozen BK139.out 4) | (go_at_call 12; (with_reducible refine (check_Bits.calls kj3 a0_0 a0_1 a0_2 a0_3 a0_4 t144 t148 t149 _ A39.out).mono ?_); rintro e w64 ⟨rfl, hb⟩; have n0_ := Aside0.mk (blkb BK139.out hb); have n1_ := Aside0.mk (blkb BK140.out hb); have n2_ := Aside0.mk (below_step (hbw HB.out) hb); clear BK139; clear BK140; clear HB; have BK139 := n0_; have BK140 := n1_; have HB := n2_; clear n0_ n1_ n2_; (try clear hb); (try clear hb2); (try clear hk); (try clear hi))))
     go_ret
     exact ⟨by first | rfl | (simp [errW_none, errW_some] <;> rfl) | (simp [*, errW_none, errW_some] <;> rfl), by repeat (first | (with_reducible first | exact HB.out | apply below_alloc | apply pw_below_drewN | apply below_drew1 | refine below_set ?_ GE139.out | refine below_set ?_ GE140.out) | exact HB.out)⟩

/-- THE ONE PURE STATEMENT of signalbenchlaw04_CheckDetects: yours. -/
def signalbenchlaw04_CheckDetects.Pure : Prop := ∀ (a0_0 : Int) (a0_1 : Int) (a0_2 : Int) (a0_3 : Int) (a0_4 : Bool) (a1 : ByteArray) (a2_0 : Int) (a2_1 : Int), (Lit.int .i64 a0_0).wf = true → (Lit.int .i64 a0_1).wf = true → (Lit.int .i64 a0_2).wf = true → (Lit.int .i64 a0_3).wf = true → a1.size ≤ 140737488351232 → (Lit.int .i64 a2_0).wf = true → (Lit.int .i64 a2_1).wf = true → ∃ k, signalbenchlaw04_CheckDetects.f k a0_0 a0_1 a0_2 a0_3 a0_4 a1 a2_0 a2_1 = some true
theorem signalbenchlaw04_CheckDetects.walk (P : signalbenchlaw04_CheckDetects.Pure) (a0_0 : Int) (a0_1 : Int) (a0_2 : Int) (a0_3 : Int) (a0_4 : Bool) (a1 : ByteArray) (a2_0 : Int) (a2_1 : Int) (w : World) (hT_ : TabOk w)  (w0_ : (Lit.int .i64 a0_0).wf = true) (w1_ : (Lit.int .i64 a0_1).wf = true) (w2_ : (Lit.int .i64 a0_2).wf = true) (w3_ : (Lit.int .i64 a0_3).wf = true) (w4_ : a1.size ≤ 140737488351232) (w5_ : (Lit.int .i64 a2_0).wf = true) (w6_ : (Lit.int .i64 a2_1).wf = true) :
  Calls Tryd.prog 7 #[.agg #[.int .i64 a0_0, .int .i64 a0_1, .int .i64 a0_2, .int .i64 a0_3, .bool a0_4], .string a1, .agg #[.int .i64 a2_0, .int .i64 a2_1]] w fun e w' => e = .returned (.bool true) ∧ Below w.heap.size w w' := by
 obtain ⟨k, h⟩ := P a0_0 a0_1 a0_2 a0_3 a0_4 a1 a2_0 a2_1 w0_ w1_ w2_ w3_ w4_ w5_ w6_
 refine (signalbenchlaw04_CheckDetects.calls k a0_0 a0_1 a0_2 a0_3 a0_4 a1 a2_0 a2_1 true w hT_  h).mono ?_
 rintro e w' ⟨rfl, hd⟩
 exact ⟨rfl, hd⟩

end Go.Proofs.YteeejopgaegaoaaDoor.PCheckDetects
