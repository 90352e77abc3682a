-- Written by a program of this session (wip/tools/pr.py), which calls the kit's print with changes of its own.
import Derived.Test.YteeejopgaegaoaaDoorPCheckLinearx0
namespace Go.Proofs.YteeejopgaegaoaaDoor.PCheckLinear
open Go.RowKit Go.Proofs.YteeejopgaegaoaaDoorW.PrintWords Go.Proofs.YteeejopgaegaoaaDoorW.PrintLast Go.Proofs.YteeejopgaegaoaaDoorW.PrintMore
attribute [local go_sem] max2_int min2_int max_two min_two max_three min_three max_four min_four   -- for this text's walks alone
set_option linter.unusedVariables false
set_option linter.unusedSimpArgs false

/-! ### signalbenchlaw04_mixed: function 26 -/
def signalbenchlaw04_mixed.l0 : Nat → ByteArray → ByteArray → ByteArray → ByteArray → Int → Option (ByteArray)
 | 0, _, _, _, _, _ => none
 | k + 1, x0, x1, x2, x7, x8 => if x8 < (x0.size : Int) then (if 0 ≤ x8 then (if x8 < (x1.size : Int) then (if x8 < (x2.size : Int) then (if ((((bt x0 x8) == 49) != ((bt x1 x8) == 49)) != ((bt x2 x8) == 49)) = true then (if x7.size + 1 ≤ 9223372036854775807 then (signalbenchlaw04_mixed.l0 k x0 x1 x2 (x7 ++ (⟨#[49]⟩ : ByteArray)) (wrap64 (x8 + 1))) else (none)) else (if x7.size + 1 ≤ 9223372036854775807 then (signalbenchlaw04_mixed.l0 k x0 x1 x2 (x7 ++ (⟨#[48]⟩ : ByteArray)) (wrap64 (x8 + 1))) else (none))) else (none)) else (none)) else (none)) else (some x7)
def signalbenchlaw04_mixed.f (k : Nat) (a0 : ByteArray) (a1 : ByteArray) (a2 : ByteArray) : Option (ByteArray) := signalbenchlaw04_mixed.l0 k a0 a1 a2 (⟨#[]⟩ : ByteArray) 0
theorem signalbenchlaw04_mixed.mono_l : ∀ k, (∀ y0 y1 y2 y3 y4, LeO (signalbenchlaw04_mixed.l0 k y0 y1 y2 y3 y4) (signalbenchlaw04_mixed.l0 (k + 1) y0 y1 y2 y3 y4))
 | 0 => fun _ _ _ _ _ r h => by simp [signalbenchlaw04_mixed.l0] at h
 | k + 1 => by
  have ih0 := signalbenchlaw04_mixed.mono_l k
  ·intro y0 y1 y2 y3 y4
   unfold signalbenchlaw04_mixed.l0
   repeat' first
   | (with_reducible exact ih0 _ _ _ _ _)
   | (with_reducible exact LeO.refl _)
   | (with_reducible exact LeO.none _)
   | (with_reducible refine LeO.ite ?_ ?_)
   | (with_reducible refine LeO.bind ?_ (fun _ => ?_))
   | exact ih0 _ _ _ _ _
   | exact LeO.none _
   | refine LeO.ite ?_ ?_
   | refine LeO.bind ?_ (fun _ => ?_)
theorem signalbenchlaw04_mixed.mono : ∀ a0 a1 a2 k, LeO (signalbenchlaw04_mixed.f k a0 a1 a2) (signalbenchlaw04_mixed.f (k + 1) a0 a1 a2) := by
 intro a0 a1 a2 k
 have ih0 := signalbenchlaw04_mixed.mono_l k
 unfold signalbenchlaw04_mixed.f
 repeat' first
   | (with_reducible exact ih0 _ _ _ _ _)
   | (with_reducible exact LeO.refl _)
   | (with_reducible exact LeO.none _)
   | (with_reducible refine LeO.ite ?_ ?_)
   | (with_reducible refine LeO.bind ?_ (fun _ => ?_))
   | exact ih0 _ _ _ _ _
   | exact LeO.none _
   | refine LeO.ite ?_ ?_
   | refine LeO.bind ?_ (fun _ => ?_)
set_option maxHeartbeats 8000000 in
set_option maxRecDepth 100000 in
theorem signalbenchlaw04_mixed.calls (k : Nat) (a0 : ByteArray) (a1 : ByteArray) (a2 : ByteArray) (r : ByteArray) (w : World) (h : signalbenchlaw04_mixed.f k a0 a1 a2 = some r) :
  Calls Tryd.prog 26 #[.string a0, .string a1, .string a2] w fun e w' => e = .returned (.string r) ∧ Drawn0 w w' := by
 have H : (signalbenchlaw04_mixed.l0 k a0 a1 a2 (⟨#[]⟩ : ByteArray) 0) = some r := h
 clear h
 have H' := Aside0.mk H
 clear H
 go_enter Tryd.func26, Tryd.ntmps26
 go_wp2
 repeat (go_quiet (fail); try go_wp2)
 go_loopg [7, 8] k (fun kq v7 v8 w' => ∃ (x7_1 : ByteArray) (x8_1 : Int), v7 = .string x7_1 ∧ v8 = .int .i64 x8_1 ∧ Aside0 (signalbenchlaw04_mixed.l0 kq a0 a1 a2 x7_1 x8_1 = some r) ∧ Aside0 (kq ≤ k) ∧ Drawn0 w w')
 case atStart => exact ⟨((⟨#[]⟩ : ByteArray)), (0), (by first | rfl | (simp; done) | (simp [*]; done)), (by first | rfl | (simp; done) | (simp [*]; done)), H', ⟨Nat.le_refl _⟩, by repeat (first | exact Drawn0.refl _ | apply Drawn0.step)⟩
 case round =>
  clear H'
  try clear c2
  try clear p2
  obtain ⟨x7_1, x8_1, rfl, rfl, HA, HK1, ⟨m1, rfl⟩⟩ := hrel
  cases gk with
  | zero => exact absurd HA.out (by simp [signalbenchlaw04_mixed.l0])
  | succ k1 =>
   have H := HA.out
   clear HA
   simp only [signalbenchlaw04_mixed.l0] at H
   by_cases c4 : x8_1 < (a0.size : Int)
   ·rw [if_pos c4] at H
    have c4b0 : decide (x8_1 < (a0.size : Int)) = true := decide_eq_true c4
    clear c4
    by_cases c5 : 0 ≤ x8_1
    ·rw [if_pos c5] at H
     have c5b0 : decide (0 ≤ x8_1) = true := decide_eq_true c5
     clear c5
     by_cases c7 : x8_1 < (a1.size : Int)
     ·rw [if_pos c7] at H
      have c7b0 : decide (x8_1 < (a1.size : Int)) = true := decide_eq_true c7
      clear c7
      by_cases c9 : x8_1 < (a2.size : Int)
      ·rw [if_pos c9] at H
       have c9b0 : decide (x8_1 < (a2.size : Int)) = true := decide_eq_true c9
       clear c9
       by_cases c11 : ((((bt a0 x8_1) == 49) != ((bt a1 x8_1) == 49)) != ((bt a2 x8_1) == 49)) = true
       ·rw [if_pos c11] at H
        have c11b0 : ((((bt a0 x8_1) == 49) != ((bt a1 x8_1) == 49)) != ((bt a2 x8_1) == 49)) = true := c11
        (try (have c11b1 : (!(!((bt a0 x8_1) == 49) == ((bt a1 x8_1) == 49)) == ((bt a2 x8_1) == 49)) = true := by have h_ : ((((bt a0 x8_1) == 49) != ((bt a1 x8_1) == 49)) != ((bt a2 x8_1) == 49)) = true := c11; simpa only [bneN] using h_))
        (try (have c11b2 : decide ((((bt a0 x8_1) == 49) != ((bt a1 x8_1) == 49)) = ((bt a2 x8_1) == 49)) = false := by simpa using c11))
        (try (have c11b3 : ((((bt a0 x8_1) == 49) != ((bt a1 x8_1) == 49)) == ((bt a2 x8_1) == 49)) = false := by simpa using c11))
        (try (have c11b4 : ¬ ((((bt a0 x8_1) == 49) != ((bt a1 x8_1) == 49)) = ((bt a2 x8_1) == 49)) := by simpa using c11))
        clear c11
        by_cases c12 : x7_1.size + 1 ≤ 9223372036854775807
        ·rw [if_pos c12] at H
         have c12b0 := eq_true c12
         have c12b1 : decide (x7_1.size + 1 ≤ 9223372036854775807) = true := decide_eq_true c12
         try have c12b2 : (9223372036854775807 < x7_1.size + 1) = False := eq_false (Nat.not_lt.2 c12)
         have H' := Aside0.mk H
         clear H
         have p6 : 0 ≤ (x8_1 : Int) := of_decide_eq_true (by first | (with_reducible assumption) | assumption)
         have q6 : x8_1 < (a0.size : Int) := of_decide_eq_true (by first | (with_reducible assumption) | assumption)
         have hx6 := bt_at a0 x8_1
         replace p6 := eq_true p6
         replace q6 := eq_true q6
         have p8 : 0 ≤ (x8_1 : Int) := of_decide_eq_true (by first | (with_reducible assumption) | assumption)
         have q8 : x8_1 < (a1.size : Int) := of_decide_eq_true (by first | (with_reducible assumption) | assumption)
         have hx8 := bt_at a1 x8_1
         replace p8 := eq_true p8
         replace q8 := eq_true q8
         have p10 : 0 ≤ (x8_1 : Int) := of_decide_eq_true (by first | (with_reducible assumption) | assumption)
         have q10 : x8_1 < (a2.size : Int) := of_decide_eq_true (by first | (with_reducible assumption) | assumption)
         have hx10 := bt_at a2 x8_1
         replace p10 := eq_true p10
         replace q10 := eq_true q10
         go_wp2
         repeat (go_quiet (fail); try go_wp2)
         go_roundg k1
         case measure => have := HK1.out; omega
         case rel => exact ⟨(x7_1 ++ (⟨#[49]⟩ : ByteArray)), (wrap64 (x8_1 + 1)), (by first | rfl | (simp; done) | (simp [*]; done)), (by first | rfl | (simp; done) | (simp [*]; done)), H', ⟨by have := HK1.out; omega⟩, by repeat (first | exact Drawn0.refl _ | apply Drawn0.step)⟩
        ·rw [if_neg c12] at H
         exact absurd H (by simp)
       ·rw [if_neg c11] at H
        have c11b0 : ((((bt a0 x8_1) == 49) != ((bt a1 x8_1) == 49)) != ((bt a2 x8_1) == 49)) = false := by simpa using c11
        (try (have c11b1 : (!(!((bt a0 x8_1) == 49) == ((bt a1 x8_1) == 49)) == ((bt a2 x8_1) == 49)) = false := by have h_ : ((((bt a0 x8_1) == 49) != ((bt a1 x8_1) == 49)) != ((bt a2 x8_1) == 49)) = false := (by simpa using c11); simpa only [bneN] using h_))
        (try (have c11b2 : decide ((((bt a0 x8_1) == 49) != ((bt a1 x8_1) == 49)) = ((bt a2 x8_1) == 49)) = true := by simpa using c11))
        (try (have c11b3 : ((((bt a0 x8_1) == 49) != ((bt a1 x8_1) == 49)) == ((bt a2 x8_1) == 49)) = true := by simpa using c11))
        clear c11
        by_cases c13 : x7_1.size + 1 ≤ 9223372036854775807
        ·rw [if_pos c13] at H
         have c13b0 := eq_true c13
         have c13b1 : decide (x7_1.size + 1 ≤ 9223372036854775807) = true := decide_eq_true c13
         try have c13b2 : (9223372036854775807 < x7_1.size + 1) = False := eq_false (Nat.not_lt.2 c13)
         have H' := Aside0.mk H
         clear H
         have p6 : 0 ≤ (x8_1 : Int) := of_decide_eq_true (by first | (with_reducible assumption) | assumption)
         have q6 : x8_1 < (a0.size : Int) := of_decide_eq_true (by first | (with_reducible assumption) | assumption)
         have hx6 := bt_at a0 x8_1
         replace p6 := eq_true p6
         replace q6 := eq_true q6
         have p8 : 0 ≤ (x8_1 : Int) := of_decide_eq_true (by first | (with_reducible assumption) | assumption)
         have q8 : x8_1 < (a1.size : Int) := of_decide_eq_true (by first | (with_reducible assumption) | assumption)
         have hx8 := bt_at a1 x8_1
         replace p8 := eq_true p8
         replace q8 := eq_true q8
         have p10 : 0 ≤ (x8_1 : Int) := of_decide_eq_true (by first | (with_reducible assumption) | assumption)
         have q10 : x8_1 < (a2.size : Int) := of_decide_eq_true (by first | (with_reducible assumption) | assumption)
         have hx10 := bt_at a2 x8_1
         replace p10 := eq_true p10
         replace q10 := eq_true q10
         go_wp2
         repeat (go_quiet (fail); try go_wp2)
         go_roundg k1
         case measure => have := HK1.out; omega
         case rel => exact ⟨(x7_1 ++ (⟨#[48]⟩ : ByteArray)), (wrap64 (x8_1 + 1)), (by first | rfl | (simp; done) | (simp [*]; done)), (by first | rfl | (simp; done) | (simp [*]; done)), H', ⟨by have := HK1.out; omega⟩, by repeat (first | exact Drawn0.refl _ | apply Drawn0.step)⟩
        ·rw [if_neg c13] at H
         exact absurd H (by simp)
      ·rw [if_neg c9] at H
       exact absurd H (by simp)
     ·rw [if_neg c7] at H
      exact absurd H (by simp)
    ·rw [if_neg c5] at H
     exact absurd H (by simp)
   ·rw [if_neg c4] at H
    have c4b0 : decide (x8_1 < (a0.size : Int)) = false := decide_eq_false c4
    clear c4
    obtain rfl := Option.some.inj H
    go_wp2
    repeat (go_quiet (fail); try go_wp2)
    go_ret
    exact ⟨by first | rfl | (simp; done) | (simp [*]; done), by repeat (first | exact Drawn0.refl _ | apply Drawn0.step)⟩

end Go.Proofs.YteeejopgaegaoaaDoor.PCheckLinear
