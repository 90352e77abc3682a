-- Written by a program of this session (wip/tools/pr.py), which calls the kit's print with changes of its own.
import Derived.Test.YtbggkaofkohecaaPSyncRoundTripsx0
namespace Go.Proofs.Ytbggkaofkohecaa.PSyncRoundTrips
open Go.RowKit Go.Proofs.YtbggkaofkohecaaW.PrintWords Go.Proofs.YtbggkaofkohecaaW.PrintLast Go.Proofs.YtbggkaofkohecaaW.PrintMore
attribute [local go_sem] max2_int min2_int max_two min_two max_three min_three max_four min_four   -- for this text's walks alone
set_option linter.unusedVariables false
set_option linter.unusedSimpArgs false

/-! ### signalbenchlaw21_few: function 18 -/
mutual
def signalbenchlaw21_few.j0 : Nat → List (S46) → Option (Bool)
 | 0, _ => none
 | k + 1, x0 => signalbenchlaw21_few.l0 k x0 0 0
def signalbenchlaw21_few.l0 : Nat → List (S46) → Int → Int → Option (Bool)
 | 0, _, _, _ => none
 | k + 1, x0, x3, x4 => if x4 < (x0.length : Int) then (if 0 ≤ x4 then (if (wrap64 (x3 + (((rd_T46 x0 x4).f3).size : Int))) > 20000 then (some false) else (signalbenchlaw21_few.l0 k x0 (wrap64 (x3 + (((rd_T46 x0 x4).f3).size : Int))) (wrap64 (x4 + 1)))) else (none)) else (some true)
end
def signalbenchlaw21_few.f (k : Nat) (l0 : List (S46)) : Option (Bool) := if (l0.length : Int) > 1100 then (some false) else (signalbenchlaw21_few.j0 k l0)
theorem signalbenchlaw21_few.mono_l : ∀ k, (∀ y0, LeO (signalbenchlaw21_few.j0 k y0) (signalbenchlaw21_few.j0 (k + 1) y0)) ∧ (∀ y0 y1 y2, LeO (signalbenchlaw21_few.l0 k y0 y1 y2) (signalbenchlaw21_few.l0 (k + 1) y0 y1 y2))
 | 0 => ⟨fun _ r h => by simp [signalbenchlaw21_few.j0] at h, fun _ _ _ r h => by simp [signalbenchlaw21_few.l0] at h⟩
 | k + 1 => by
  obtain ⟨ih0, ih1⟩ := signalbenchlaw21_few.mono_l k
  refine ⟨?_, ?_⟩
  ·intro y0
   unfold signalbenchlaw21_few.j0
   repeat' first
   | (with_reducible exact ih0 _)
   | (with_reducible exact ih1 _ _ _)
   | (with_reducible exact LeO.refl _)
   | (with_reducible exact LeO.none _)
   | (with_reducible refine LeO.ite ?_ ?_)
   | (with_reducible refine LeO.bind ?_ (fun _ => ?_))
   | exact ih0 _
   | exact ih1 _ _ _
   | exact LeO.none _
   | refine LeO.ite ?_ ?_
   | refine LeO.bind ?_ (fun _ => ?_)
  ·intro y0 y1 y2
   unfold signalbenchlaw21_few.l0
   repeat' first
   | (with_reducible exact ih0 _)
   | (with_reducible exact ih1 _ _ _)
   | (with_reducible exact LeO.refl _)
   | (with_reducible exact LeO.none _)
   | (with_reducible refine LeO.ite ?_ ?_)
   | (with_reducible refine LeO.bind ?_ (fun _ => ?_))
   | exact ih0 _
   | exact ih1 _ _ _
   | exact LeO.none _
   | refine LeO.ite ?_ ?_
   | refine LeO.bind ?_ (fun _ => ?_)
theorem signalbenchlaw21_few.mono : ∀ a0 k, LeO (signalbenchlaw21_few.f k a0) (signalbenchlaw21_few.f (k + 1) a0) := by
 intro a0 k
 obtain ⟨ih0, ih1⟩ := signalbenchlaw21_few.mono_l k
 unfold signalbenchlaw21_few.f
 repeat' first
   | (with_reducible exact ih0 _)
   | (with_reducible exact ih1 _ _ _)
   | (with_reducible exact LeO.refl _)
   | (with_reducible exact LeO.none _)
   | (with_reducible refine LeO.ite ?_ ?_)
   | (with_reducible refine LeO.bind ?_ (fun _ => ?_))
   | exact ih0 _
   | exact ih1 _ _ _
   | exact LeO.none _
   | refine LeO.ite ?_ ?_
   | refine LeO.bind ?_ (fun _ => ?_)
set_option maxHeartbeats 8000000 in
set_option maxRecDepth 100000 in
theorem signalbenchlaw21_few.calls (k : Nat) (A0 : Option Addr) (c0 : Nat) (l0 : List (S46)) (r : Bool) (w : World) (hr0 : Kd.C k46 w A0 l0.length l0) (hc0 : l0.length ≤ c0) (h : signalbenchlaw21_few.f k l0 = some r) :
  Calls Try.prog 18 #[.slice A0 l0.length c0] w fun e w' => e = .returned (.bool r) ∧ Drawn0 w w' := by
 have HR0 := Aside0.mk hr0
 have HC0 := Aside0.mk hc0
 clear hr0 hc0
 have H : (if (l0.length : Int) > 1100 then (some false) else (signalbenchlaw21_few.j0 k l0)) = some r := h
 clear h
 have HC2 := Aside0.mk H
 clear H
 go_enter Try.func18, Try.ntmps18
 go_upto_if 7 with (fail)
 go_cut [] (fun wc => ∃ (kq : Nat), Aside0 (signalbenchlaw21_few.j0 kq l0 = some r) ∧ Aside0 (kq ≤ k) ∧ Drawn0 w wc)
 case first =>
  have H := HC2.out
  clear HC2
  by_cases c3 : (l0.length : Int) > 1100
  ·rw [if_pos c3] at H
   have c3b0 : decide (1100 < (l0.length : Int)) = true := decide_eq_true c3
   have c3b1 : decide (1100 < l0.length) = true := decide_eq_true (by omega)
   clear c3
   (first | rw [c3b0] | (simp only [i64_w, i32_w]; rw [c3b0]) | skip)
   obtain rfl := Option.some.inj H
   go_wp2
   go_ret
   exact ⟨by first | rfl | (simp; done) | (simp [*]; done), by repeat (first | exact Drawn0.refl _ | apply Drawn0.step)⟩
  ·rw [if_neg c3] at H
   have c3b0 : decide (1100 < (l0.length : Int)) = false := decide_eq_false c3
   have c3b1 : decide (1100 < l0.length) = false := decide_eq_false (by omega)
   clear c3
   (first | rw [c3b0] | (simp only [i64_w, i32_w]; rw [c3b0]) | skip)
   have H' := Aside0.mk H
   clear H
   go_wp2
   go_meet
   case rel => exact ⟨_, H', ⟨by first | omega | exact Nat.le_refl _⟩, by repeat (first | exact Drawn0.refl _ | apply Drawn0.step)⟩
 case rest =>
  clear HC2
  try clear c1
  try clear p2
  try clear c3
  try clear c3b0
  try clear c3b1
  obtain ⟨kq, HA, HJ1, ⟨mc1, rfl⟩⟩ := hcut
  cases kq with
  | zero => exact absurd HA.out (by simp [signalbenchlaw21_few.j0])
  | succ kj1 =>
   have H := HA.out
   clear HA
   simp only [signalbenchlaw21_few.j0] at H
   have H' := Aside0.mk H
   clear H
   go_wp2
   go_loopg [3, 4] kj1 (fun kq v3 v4 w' => ∃ (x3_2 : Int) (x4_2 : Int), v3 = .int .i64 x3_2 ∧ v4 = .int .i64 x4_2 ∧ Aside0 (signalbenchlaw21_few.l0 kq l0 x3_2 x4_2 = some r) ∧ Aside0 (kq ≤ kj1) ∧ Drawn0 w w')
   case atStart => exact ⟨(0), (0), (by first | rfl | (simp; done) | (simp [*]; done)), (by first | rfl | (simp; done) | (simp [*]; done)), H', ⟨Nat.le_refl _⟩, by repeat (first | exact Drawn0.refl _ | apply Drawn0.step)⟩
   case round =>
    clear H'
    try clear c1
    try clear p2
    try clear c3
    try clear c3b0
    try clear c3b1
    try clear p2
    obtain ⟨x3_2, x4_2, rfl, rfl, HA, HK2, ⟨m2, rfl⟩⟩ := hrel
    cases gk with
    | zero => exact absurd HA.out (by simp [signalbenchlaw21_few.l0])
    | succ k2 =>
     have H := HA.out
     clear HA
     simp only [signalbenchlaw21_few.l0] at H
     by_cases c4 : x4_2 < (l0.length : Int)
     ·rw [if_pos c4] at H
      have c4b0 : decide (x4_2 < (l0.length : Int)) = true := decide_eq_true c4
      clear c4
      by_cases c5 : 0 ≤ x4_2
      ·rw [if_pos c5] at H
       have c5b0 : decide (0 ≤ x4_2) = true := decide_eq_true c5
       clear c5
       by_cases c6 : (wrap64 (x3_2 + (((rd_T46 l0 x4_2).f3).size : Int))) > 20000
       ·rw [if_pos c6] at H
        have c6b0 : decide (20000 < (wrap64 (x3_2 + (((rd_T46 l0 x4_2).f3).size : Int)))) = true := decide_eq_true c6
        clear c6
        obtain rfl := Option.some.inj H
        have p285 : 0 ≤ (x4_2 : Int) := of_decide_eq_true (by first | (with_reducible assumption) | assumption)
        have q285 : x4_2 < (l0.length : Int) := of_decide_eq_true (by first | (with_reducible assumption) | assumption)
        obtain ⟨ad285, e285, hx285_0, hx285_1, hx285_2, hx285_3, hx285_4⟩ := at_T46 HR0.out x4_2 p285 q285
        cases e285
        replace p285 := eq_true p285
        replace q285 := eq_true q285
        go_wp2
        go_ret
        exact ⟨by first | rfl | (simp; done) | (simp [*]; done), by repeat (first | exact Drawn0.refl _ | apply Drawn0.step)⟩
       ·rw [if_neg c6] at H
        have c6b0 : decide (20000 < (wrap64 (x3_2 + (((rd_T46 l0 x4_2).f3).size : Int)))) = false := decide_eq_false c6
        clear c6
        have H' := Aside0.mk H
        clear H
        have p285 : 0 ≤ (x4_2 : Int) := of_decide_eq_true (by first | (with_reducible assumption) | assumption)
        have q285 : x4_2 < (l0.length : Int) := of_decide_eq_true (by first | (with_reducible assumption) | assumption)
        obtain ⟨ad285, e285, hx285_0, hx285_1, hx285_2, hx285_3, hx285_4⟩ := at_T46 HR0.out x4_2 p285 q285
        cases e285
        replace p285 := eq_true p285
        replace q285 := eq_true q285
        go_wp2
        go_roundg k2
        case measure => have := HJ1.out; have := HK2.out; omega
        case rel => exact ⟨(wrap64 (x3_2 + (((rd_T46 l0 x4_2).f3).size : Int))), (wrap64 (x4_2 + 1)), (by first | rfl | (simp; done) | (simp [*]; done)), (by first | rfl | (simp; done) | (simp [*]; done)), H', ⟨by have := HJ1.out; have := HK2.out; omega⟩, by repeat (first | exact Drawn0.refl _ | apply Drawn0.step)⟩
      ·rw [if_neg c5] at H
       exact absurd H (by simp)
     ·rw [if_neg c4] at H
      have c4b0 : decide (x4_2 < (l0.length : Int)) = false := decide_eq_false c4
      clear c4
      obtain rfl := Option.some.inj H
      go_wp2
      go_ret
      exact ⟨by first | rfl | (simp; done) | (simp [*]; done), by repeat (first | exact Drawn0.refl _ | apply Drawn0.step)⟩

/-! ### signalbenchlaw21_bitItems: function 24 -/
mutual
def signalbenchlaw21_bitItems.l0 : Nat → List (S46) → Int → Option (Bool)
 | 0, _, _ => none
 | k + 1, x0, x3 => if x3 < (x0.length : Int) then (signalbenchlaw21_bitItems.j1 k x0 x3) else (some true)
def signalbenchlaw21_bitItems.j1 : Nat → List (S46) → Int → Option (Bool)
 | 0, _, _ => none
 | k + 1, x0, x3 => if 0 ≤ x3 then (if x3 < (x0.length : Int) then (if ((rd_T46 x0 x3).f0) < 0 then (signalbenchlaw21_bitItems.j2 k x0 x3 true) else (signalbenchlaw21_bitItems.j2 k x0 x3 (decide (((rd_T46 x0 x3).f0) > 1048576)))) else (none)) else (none)
def signalbenchlaw21_bitItems.j2 : Nat → List (S46) → Int → Bool → Option (Bool)
 | 0, _, _, _ => none
 | k + 1, x0, x3, x24 => if x24 = true then (some false) else (signalbenchlaw21_bitItems.j3 k x0 x3)
def signalbenchlaw21_bitItems.j3 : Nat → List (S46) → Int → Option (Bool)
 | 0, _, _ => none
 | k + 1, x0, x3 => signalbenchlaw21_bitItems.l1 k x0 x3 0
def signalbenchlaw21_bitItems.l1 : Nat → List (S46) → Int → Int → Option (Bool)
 | 0, _, _, _ => none
 | k + 1, x0, x3, x4 => if 0 ≤ x3 then (if x3 < (x0.length : Int) then (if x4 < (((rd_T46 x0 x3).f3).size : Int) then (if 0 ≤ x4 then (if (bt ((rd_T46 x0 x3).f3) x4) = 48 then (signalbenchlaw21_bitItems.l1 k x0 x3 (wrap64 (x4 + 1))) else (if (bt ((rd_T46 x0 x3).f3) x4) = 49 then (signalbenchlaw21_bitItems.l1 k x0 x3 (wrap64 (x4 + 1))) else (some false))) else (none)) else (signalbenchlaw21_bitItems.l0 k x0 (wrap64 (x3 + 1)))) else (none)) else (none)
end
def signalbenchlaw21_bitItems.f (k : Nat) (l0 : List (S46)) : Option (Bool) := signalbenchlaw21_bitItems.l0 k l0 0
theorem signalbenchlaw21_bitItems.mono_l : ∀ k, (∀ y0 y1, LeO (signalbenchlaw21_bitItems.l0 k y0 y1) (signalbenchlaw21_bitItems.l0 (k + 1) y0 y1)) ∧ (∀ y0 y1, LeO (signalbenchlaw21_bitItems.j1 k y0 y1) (signalbenchlaw21_bitItems.j1 (k + 1) y0 y1)) ∧ (∀ y0 y1 y2, LeO (signalbenchlaw21_bitItems.j2 k y0 y1 y2) (signalbenchlaw21_bitItems.j2 (k + 1) y0 y1 y2)) ∧ (∀ y0 y1, LeO (signalbenchlaw21_bitItems.j3 k y0 y1) (signalbenchlaw21_bitItems.j3 (k + 1) y0 y1)) ∧ (∀ y0 y1 y2, LeO (signalbenchlaw21_bitItems.l1 k y0 y1 y2) (signalbenchlaw21_bitItems.l1 (k + 1) y0 y1 y2))
 | 0 => ⟨fun _ _ r h => by simp [signalbenchlaw21_bitItems.l0] at h, fun _ _ r h => by simp [signalbenchlaw21_bitItems.j1] at h, fun _ _ _ r h => by simp [signalbenchlaw21_bitItems.j2] at h, fun _ _ r h => by simp [signalbenchlaw21_bitItems.j3] at h, fun _ _ _ r h => by simp [signalbenchlaw21_bitItems.l1] at h⟩
 | k + 1 => by
  obtain ⟨ih0, ih1, ih2, ih3, ih4⟩ := signalbenchlaw21_bitItems.mono_l k
  refine ⟨?_, ?_, ?_, ?_, ?_⟩
  ·intro y0 y1
   unfold signalbenchlaw21_bitItems.l0
   repeat' first
   | (with_reducible exact ih0 _ _)
   | (with_reducible exact ih1 _ _)
   | (with_reducible exact ih2 _ _ _)
   | (with_reducible exact ih3 _ _)
   | (with_reducible exact ih4 _ _ _)
   | (with_reducible exact LeO.refl _)
   | (with_reducible exact LeO.none _)
   | (with_reducible refine LeO.ite ?_ ?_)
   | (with_reducible refine LeO.bind ?_ (fun _ => ?_))
   | exact ih0 _ _
   | exact ih1 _ _
   | exact ih2 _ _ _
   | exact ih3 _ _
   | exact ih4 _ _ _
   | exact LeO.none _
   | refine LeO.ite ?_ ?_
   | refine LeO.bind ?_ (fun _ => ?_)
  ·intro y0 y1
   unfold signalbenchlaw21_bitItems.j1
   repeat' first
   | (with_reducible exact ih0 _ _)
   | (with_reducible exact ih1 _ _)
   | (with_reducible exact ih2 _ _ _)
   | (with_reducible exact ih3 _ _)
   | (with_reducible exact ih4 _ _ _)
   | (with_reducible exact LeO.refl _)
   | (with_reducible exact LeO.none _)
   | (with_reducible refine LeO.ite ?_ ?_)
   | (with_reducible refine LeO.bind ?_ (fun _ => ?_))
   | exact ih0 _ _
   | exact ih1 _ _
   | exact ih2 _ _ _
   | exact ih3 _ _
   | exact ih4 _ _ _
   | exact LeO.none _
   | refine LeO.ite ?_ ?_
   | refine LeO.bind ?_ (fun _ => ?_)
  ·intro y0 y1 y2
   unfold signalbenchlaw21_bitItems.j2
   repeat' first
   | (with_reducible exact ih0 _ _)
   | (with_reducible exact ih1 _ _)
   | (with_reducible exact ih2 _ _ _)
   | (with_reducible exact ih3 _ _)
   | (with_reducible exact ih4 _ _ _)
   | (with_reducible exact LeO.refl _)
   | (with_reducible exact LeO.none _)
   | (with_reducible refine LeO.ite ?_ ?_)
   | (with_reducible refine LeO.bind ?_ (fun _ => ?_))
   | exact ih0 _ _
   | exact ih1 _ _
   | exact ih2 _ _ _
   | exact ih3 _ _
   | exact ih4 _ _ _
   | exact LeO.none _
   | refine LeO.ite ?_ ?_
   | refine LeO.bind ?_ (fun _ => ?_)
  ·intro y0 y1
   unfold signalbenchlaw21_bitItems.j3
   repeat' first
   | (with_reducible exact ih0 _ _)
   | (with_reducible exact ih1 _ _)
   | (with_reducible exact ih2 _ _ _)
   | (with_reducible exact ih3 _ _)
   | (with_reducible exact ih4 _ _ _)
   | (with_reducible exact LeO.refl _)
   | (with_reducible exact LeO.none _)
   | (with_reducible refine LeO.ite ?_ ?_)
   | (with_reducible refine LeO.bind ?_ (fun _ => ?_))
   | exact ih0 _ _
   | exact ih1 _ _
   | exact ih2 _ _ _
   | exact ih3 _ _
   | exact ih4 _ _ _
   | exact LeO.none _
   | refine LeO.ite ?_ ?_
   | refine LeO.bind ?_ (fun _ => ?_)
  ·intro y0 y1 y2
   unfold signalbenchlaw21_bitItems.l1
   repeat' first
   | (with_reducible exact ih0 _ _)
   | (with_reducible exact ih1 _ _)
   | (with_reducible exact ih2 _ _ _)
   | (with_reducible exact ih3 _ _)
   | (with_reducible exact ih4 _ _ _)
   | (with_reducible exact LeO.refl _)
   | (with_reducible exact LeO.none _)
   | (with_reducible refine LeO.ite ?_ ?_)
   | (with_reducible refine LeO.bind ?_ (fun _ => ?_))
   | exact ih0 _ _
   | exact ih1 _ _
   | exact ih2 _ _ _
   | exact ih3 _ _
   | exact ih4 _ _ _
   | exact LeO.none _
   | refine LeO.ite ?_ ?_
   | refine LeO.bind ?_ (fun _ => ?_)
theorem signalbenchlaw21_bitItems.mono : ∀ a0 k, LeO (signalbenchlaw21_bitItems.f k a0) (signalbenchlaw21_bitItems.f (k + 1) a0) := by
 intro a0 k
 obtain ⟨ih0, ih1, ih2, ih3, ih4⟩ := signalbenchlaw21_bitItems.mono_l k
 unfold signalbenchlaw21_bitItems.f
 repeat' first
   | (with_reducible exact ih0 _ _)
   | (with_reducible exact ih1 _ _)
   | (with_reducible exact ih2 _ _ _)
   | (with_reducible exact ih3 _ _)
   | (with_reducible exact ih4 _ _ _)
   | (with_reducible exact LeO.refl _)
   | (with_reducible exact LeO.none _)
   | (with_reducible refine LeO.ite ?_ ?_)
   | (with_reducible refine LeO.bind ?_ (fun _ => ?_))
   | exact ih0 _ _
   | exact ih1 _ _
   | exact ih2 _ _ _
   | exact ih3 _ _
   | exact ih4 _ _ _
   | exact LeO.none _
   | refine LeO.ite ?_ ?_
   | refine LeO.bind ?_ (fun _ => ?_)
set_option maxHeartbeats 8000000 in
set_option maxRecDepth 100000 in
theorem signalbenchlaw21_bitItems.calls (k : Nat) (A0 : Option Addr) (c0 : Nat) (l0 : List (S46)) (r : Bool) (w : World) (hr0 : Kd.C k46 w A0 l0.length l0) (hc0 : l0.length ≤ c0) (h : signalbenchlaw21_bitItems.f k l0 = some r) :
  Calls Try.prog 24 #[.slice A0 l0.length c0] w fun e w' => e = .returned (.bool r) ∧ Drawn0 w w' := by
 have HR0 := Aside0.mk hr0
 have HC0 := Aside0.mk hc0
 clear hr0 hc0
 have H : (signalbenchlaw21_bitItems.l0 k l0 0) = some r := h
 clear h
 have H' := Aside0.mk H
 clear H
 go_enter Try.func24, Try.ntmps24
 go_wp2
 go_loopg [3] k (fun kq v3 w' => ∃ (x3_1 : Int), v3 = .int .i64 x3_1 ∧ Aside0 (signalbenchlaw21_bitItems.l0 kq l0 x3_1 = some r) ∧ Aside0 (kq ≤ k) ∧ Drawn0 w w')
 case atStart => exact ⟨(0), (by first | rfl | (simp; done) | (simp [*]; done)), H', ⟨Nat.le_refl _⟩, by repeat (first | exact Drawn0.refl _ | apply Drawn0.step)⟩
 case round =>
  clear H'
  obtain ⟨x3_1, rfl, HA, HK1, ⟨m1, rfl⟩⟩ := hrel
  cases gk with
  | zero => exact absurd HA.out (by simp [signalbenchlaw21_bitItems.l0])
  | succ k1 =>
   have H := HA.out
   clear HA
   simp only [signalbenchlaw21_bitItems.l0] at H
   have HC2 := Aside0.mk H
   clear H
   go_upto_if 8 with (fail)
   go_cut [] (fun wc => ∃ (kq : Nat), Aside0 (signalbenchlaw21_bitItems.j1 kq l0 x3_1 = some r) ∧ Aside0 (kq ≤ k1) ∧ Drawn0 w wc)
   case first =>
    have H := HC2.out
    clear HC2
    by_cases c3 : x3_1 < (l0.length : Int)
    ·rw [if_pos c3] at H
     have c3b0 : decide (x3_1 < (l0.length : Int)) = true := decide_eq_true c3
     clear c3
     (first | rw [c3b0] | (simp only [i64_w, i32_w]; rw [c3b0]) | skip)
     have H' := Aside0.mk H
     clear H
     go_wp2
     go_meet
     case rel => exact ⟨_, H', ⟨by have := HK1.out; first | omega | exact Nat.le_refl _⟩, by repeat (first | exact Drawn0.refl _ | apply Drawn0.step)⟩
    ·rw [if_neg c3] at H
     have c3b0 : decide (x3_1 < (l0.length : Int)) = false := decide_eq_false c3
     clear c3
     (first | rw [c3b0] | (simp only [i64_w, i32_w]; rw [c3b0]) | skip)
     obtain rfl := Option.some.inj H
     go_wp2
     go_ret
     exact ⟨by first | rfl | (simp; done) | (simp [*]; done), by repeat (first | exact Drawn0.refl _ | apply Drawn0.step)⟩
   case rest =>
    clear HC2
    try clear c2
    try clear p2
    try clear c3
    try clear c3b0
    obtain ⟨kq, HA, HJ1, ⟨mc1, rfl⟩⟩ := hcut
    cases kq with
    | zero => exact absurd HA.out (by simp [signalbenchlaw21_bitItems.j1])
    | succ kj1 =>
     have H := HA.out
     clear HA
     simp only [signalbenchlaw21_bitItems.j1] at H
     have HC4 := Aside0.mk H
     clear H
     go_upto_region 4 with (fail)
     go_cut [24] (fun v24 wc => ∃ (kq : Nat) (x24_3 : Bool), v24 = .bool x24_3 ∧ Aside0 (signalbenchlaw21_bitItems.j2 kq l0 x3_1 x24_3 = some r) ∧ Aside0 (kq ≤ kj1) ∧ Drawn0 w wc)
     case first =>
      have H := HC4.out
      clear HC4
      by_cases c5 : 0 ≤ x3_1
      ·rw [if_pos c5] at H
       have c5b0 : decide (0 ≤ x3_1) = true := decide_eq_true c5
       clear c5
       (first | rw [c5b0] | (simp only [i64_w, i32_w]; rw [c5b0]) | skip)
       by_cases c6 : x3_1 < (l0.length : Int)
       ·rw [if_pos c6] at H
        have c6b0 : decide (x3_1 < (l0.length : Int)) = true := decide_eq_true c6
        clear c6
        by_cases c7 : ((rd_T46 l0 x3_1).f0) < 0
        ·rw [if_pos c7] at H
         have c7b0 : decide (((rd_T46 l0 x3_1).f0) < 0) = true := decide_eq_true c7
         clear c7
         have H' := Aside0.mk H
         clear H
         have p286 : 0 ≤ (x3_1 : Int) := of_decide_eq_true (by first | (with_reducible assumption) | assumption)
         have q286 : x3_1 < (l0.length : Int) := of_decide_eq_true (by first | (with_reducible assumption) | assumption)
         obtain ⟨ad286, e286, hx286_0, hx286_1, hx286_2, hx286_3, hx286_4⟩ := at_T46 HR0.out x3_1 p286 q286
         cases e286
         replace p286 := eq_true p286
         replace q286 := eq_true q286
         go_wp2
         go_meet
         case rel => exact ⟨_, (true), (by first | rfl | (simp; done) | (simp [*]; done)), H', ⟨by have := HK1.out; have := HJ1.out; first | omega | exact Nat.le_refl _⟩, by repeat (first | exact Drawn0.refl _ | apply Drawn0.step)⟩
        ·rw [if_neg c7] at H
         have c7b0 : decide (((rd_T46 l0 x3_1).f0) < 0) = false := decide_eq_false c7
         clear c7
         have H' := Aside0.mk H
         clear H
         have p286 : 0 ≤ (x3_1 : Int) := of_decide_eq_true (by first | (with_reducible assumption) | assumption)
         have q286 : x3_1 < (l0.length : Int) := of_decide_eq_true (by first | (with_reducible assumption) | assumption)
         obtain ⟨ad286, e286, hx286_0, hx286_1, hx286_2, hx286_3, hx286_4⟩ := at_T46 HR0.out x3_1 p286 q286
         cases e286
         replace p286 := eq_true p286
         replace q286 := eq_true q286
         have p287 : 0 ≤ (x3_1 : Int) := of_decide_eq_true (by first | (with_reducible assumption) | assumption)
         have q287 : x3_1 < (l0.length : Int) := of_decide_eq_true (by first | (with_reducible assumption) | assumption)
         obtain ⟨ad287, e287, hx287_0, hx287_1, hx287_2, hx287_3, hx287_4⟩ := at_T46 HR0.out x3_1 p287 q287
         obtain rfl : ad286 = ad287 := (by injection e287)
         replace p287 := eq_true p287
         replace q287 := eq_true q287
         go_wp2
         go_meet
         case rel => exact ⟨_, (decide (((rd_T46 l0 x3_1).f0) > 1048576)), (by first | rfl | (simp; done) | (simp [*]; done)), H', ⟨by have := HK1.out; have := HJ1.out; first | omega | exact Nat.le_refl _⟩, by repeat (first | exact Drawn0.refl _ | apply Drawn0.step)⟩
       ·rw [if_neg c6] at H
        exact absurd H (by simp)
      ·rw [if_neg c5] at H
       exact absurd H (by simp)
     case rest =>
      clear HC4
      try clear c1
      try clear c2
      try clear p2
      try clear q2
      try clear hx2
      try clear c3
      try clear c3b0
      try clear c5
      try clear c5b0
      try clear c6
      try clear c6b0
      try clear c7
      try clear c7b0
      try clear hx286_0
      try clear hx286_1
      try clear hx286_2
      try clear hx286_3
      try clear hx286_4
      try clear hx287_0
      try clear hx287_1
      try clear hx287_2
      try clear hx287_3
      try clear hx287_4
      try clear p2
      try clear p286
      try clear p287
      try clear q286
      try clear q287
      obtain ⟨kq, x24_3, rfl, HA, HJ3, ⟨mc3, rfl⟩⟩ := hcut
      cases kq with
      | zero => exact absurd HA.out (by simp [signalbenchlaw21_bitItems.j2])
      | succ kj3 =>
       have H := HA.out
       clear HA
       simp only [signalbenchlaw21_bitItems.j2] at H
       have HC8 := Aside0.mk H
       clear H
       go_upto_if 24 with (fail)
       go_cut [] (fun wc => ∃ (kq : Nat), Aside0 (signalbenchlaw21_bitItems.j3 kq l0 x3_1 = some r) ∧ Aside0 (kq ≤ kj3) ∧ Drawn0 w wc)
       case first =>
        have H := HC8.out
        clear HC8
        by_cases c9 : x24_3 = true
        ·subst c9
         have H1 : (some false) = some r := by rw [if_pos rfl] at H; exact H
         clear H
         have H := H1
         clear H1
         obtain rfl := Option.some.inj H
         go_wp2
         go_ret
         exact ⟨by first | rfl | (simp; done) | (simp [*]; done), by repeat (first | exact Drawn0.refl _ | apply Drawn0.step)⟩
        ·replace c9 := Bool.eq_false_iff.mpr c9
         subst c9
         have H1 : (signalbenchlaw21_bitItems.j3 kj3 l0 x3_1) = some r := by rw [if_neg (show ¬ (false = true) by decide)] at H; exact H
         clear H
         have H := H1
         clear H1
         have H' := Aside0.mk H
         clear H
         go_wp2
         go_meet
         case rel => exact ⟨_, H', ⟨by have := HK1.out; have := HJ1.out; have := HJ3.out; first | omega | exact Nat.le_refl _⟩, by repeat (first | exact Drawn0.refl _ | apply Drawn0.step)⟩
       case rest =>
        clear HC8
        try clear c1
        try clear c2
        try clear p2
        try clear q2
        try clear hx2
        try clear c3
        try clear c3b0
        try clear c5
        try clear c5b0
        try clear c6
        try clear c6b0
        try clear c7
        try clear c7b0
        try clear c9
        try clear hx286_0
        try clear hx286_1
        try clear hx286_2
        try clear hx286_3
        try clear hx286_4
        try clear hx287_0
        try clear hx287_1
        try clear hx287_2
        try clear hx287_3
        try clear hx287_4
        try clear p2
        try clear p286
        try clear p287
        try clear q2
        try clear q286
        try clear q287
        obtain ⟨kq, HA, HJ7, ⟨mc7, rfl⟩⟩ := hcut
        cases kq with
        | zero => exact absurd HA.out (by simp [signalbenchlaw21_bitItems.j3])
        | succ kj7 =>
         have H := HA.out
         clear HA
         simp only [signalbenchlaw21_bitItems.j3] at H
         have H' := Aside0.mk H
         clear H
         go_wp2
         go_loopg [4] kj7 (fun kq v4 w' => ∃ (x4_5 : Int), v4 = .int .i64 x4_5 ∧ Aside0 (signalbenchlaw21_bitItems.l1 kq l0 x3_1 x4_5 = some r) ∧ Aside0 (kq ≤ kj7) ∧ Drawn0 w w')
         case atStart => exact ⟨(0), (by first | rfl | (simp; done) | (simp [*]; done)), H', ⟨Nat.le_refl _⟩, by repeat (first | exact Drawn0.refl _ | apply Drawn0.step)⟩
         case round =>
          clear H'
          try clear c1
          try clear c2
          try clear p2
          try clear q2
          try clear hx2
          try clear c3
          try clear c3b0
          try clear c5
          try clear c5b0
          try clear c6
          try clear c6b0
          try clear c7
          try clear c7b0
          try clear c9
          try clear hx286_0
          try clear hx286_1
          try clear hx286_2
          try clear hx286_3
          try clear hx286_4
          try clear hx287_0
          try clear hx287_1
          try clear hx287_2
          try clear hx287_3
          try clear hx287_4
          try clear p2
          try clear p286
          try clear p287
          try clear q2
          try clear q286
          try clear q287
          obtain ⟨x4_5, rfl, HA, HK5, ⟨m5, rfl⟩⟩ := hrel
          cases gk with
          | zero => exact absurd HA.out (by simp [signalbenchlaw21_bitItems.l1])
          | succ k5 =>
           have H := HA.out
           clear HA
           simp only [signalbenchlaw21_bitItems.l1] at H
           by_cases c10 : 0 ≤ x3_1
           ·rw [if_pos c10] at H
            have c10b0 : decide (0 ≤ x3_1) = true := decide_eq_true c10
            clear c10
            by_cases c11 : x3_1 < (l0.length : Int)
            ·rw [if_pos c11] at H
             have c11b0 : decide (x3_1 < (l0.length : Int)) = true := decide_eq_true c11
             clear c11
             by_cases c12 : x4_5 < (((rd_T46 l0 x3_1).f3).size : Int)
             ·rw [if_pos c12] at H
              have c12b0 : decide (x4_5 < (((rd_T46 l0 x3_1).f3).size : Int)) = true := decide_eq_true c12
              clear c12
              by_cases c13 : 0 ≤ x4_5
              ·rw [if_pos c13] at H
               have c13b0 : decide (0 ≤ x4_5) = true := decide_eq_true c13
               clear c13
               by_cases c15 : (bt ((rd_T46 l0 x3_1).f3) x4_5) = 48
               ·rw [if_pos c15] at H
                have c15b0 : ((bt ((rd_T46 l0 x3_1).f3) x4_5) == 48) = true := beq_iff_eq.mpr c15
                have c15b1 : ((bt ((rd_T46 l0 x3_1).f3) x4_5) != 48) = false := bne_eq_false_iff_eq.mpr c15
                clear c15
                have H' := Aside0.mk H
                clear H
                have p288 : 0 ≤ (x3_1 : Int) := of_decide_eq_true (by first | (with_reducible assumption) | assumption)
                have q288 : x3_1 < (l0.length : Int) := of_decide_eq_true (by first | (with_reducible assumption) | assumption)
                obtain ⟨ad288, e288, hx288_0, hx288_1, hx288_2, hx288_3, hx288_4⟩ := at_T46 HR0.out x3_1 p288 q288
                cases e288
                replace p288 := eq_true p288
                replace q288 := eq_true q288
                have p289 : 0 ≤ (x3_1 : Int) := of_decide_eq_true (by first | (with_reducible assumption) | assumption)
                have q289 : x3_1 < (l0.length : Int) := of_decide_eq_true (by first | (with_reducible assumption) | assumption)
                obtain ⟨ad289, e289, hx289_0, hx289_1, hx289_2, hx289_3, hx289_4⟩ := at_T46 HR0.out x3_1 p289 q289
                obtain rfl : ad288 = ad289 := (by injection e289)
                replace p289 := eq_true p289
                replace q289 := eq_true q289
                have p14 : 0 ≤ (x4_5 : Int) := of_decide_eq_true (by first | (with_reducible assumption) | assumption)
                have q14 : x4_5 < (((rd_T46 l0 x3_1).f3).size : Int) := of_decide_eq_true (by first | (with_reducible assumption) | assumption)
                have hx14 := bt_at ((rd_T46 l0 x3_1).f3) x4_5
                replace p14 := eq_true p14
                replace q14 := eq_true q14
                go_wp2
                go_roundg k5
                case measure => have := HK1.out; have := HJ1.out; have := HJ3.out; have := HJ7.out; have := HK5.out; omega
                case rel => exact ⟨(wrap64 (x4_5 + 1)), (by first | rfl | (simp; done) | (simp [*]; done)), H', ⟨by have := HK1.out; have := HJ1.out; have := HJ3.out; have := HJ7.out; have := HK5.out; omega⟩, by repeat (first | exact Drawn0.refl _ | apply Drawn0.step)⟩
               ·rw [if_neg c15] at H
                have c15b0 : ((bt ((rd_T46 l0 x3_1).f3) x4_5) == 48) = false := beq_eq_false_iff_ne.mpr c15
                have c15b1 : ((bt ((rd_T46 l0 x3_1).f3) x4_5) != 48) = true := bne_iff_ne.mpr c15
                by_cases c17 : (bt ((rd_T46 l0 x3_1).f3) x4_5) = 49
                ·rw [if_pos c17] at H
                 have c17b0 : ((bt ((rd_T46 l0 x3_1).f3) x4_5) == 49) = true := beq_iff_eq.mpr c17
                 have c17b1 : ((bt ((rd_T46 l0 x3_1).f3) x4_5) != 49) = false := bne_eq_false_iff_eq.mpr c17
                 clear c17
                 have H' := Aside0.mk H
                 clear H
                 have p288 : 0 ≤ (x3_1 : Int) := of_decide_eq_true (by first | (with_reducible assumption) | assumption)
                 have q288 : x3_1 < (l0.length : Int) := of_decide_eq_true (by first | (with_reducible assumption) | assumption)
                 obtain ⟨ad288, e288, hx288_0, hx288_1, hx288_2, hx288_3, hx288_4⟩ := at_T46 HR0.out x3_1 p288 q288
                 cases e288
                 replace p288 := eq_true p288
                 replace q288 := eq_true q288
                 have p289 : 0 ≤ (x3_1 : Int) := of_decide_eq_true (by first | (with_reducible assumption) | assumption)
                 have q289 : x3_1 < (l0.length : Int) := of_decide_eq_true (by first | (with_reducible assumption) | assumption)
                 obtain ⟨ad289, e289, hx289_0, hx289_1, hx289_2, hx289_3, hx289_4⟩ := at_T46 HR0.out x3_1 p289 q289
                 obtain rfl : ad288 = ad289 := (by injection e289)
                 replace p289 := eq_true p289
                 replace q289 := eq_true q289
                 have p14 : 0 ≤ (x4_5 : Int) := of_decide_eq_true (by first | (with_reducible assumption) | assumption)
                 have q14 : x4_5 < (((rd_T46 l0 x3_1).f3).size : Int) := of_decide_eq_true (by first | (with_reducible assumption) | assumption)
                 have hx14 := bt_at ((rd_T46 l0 x3_1).f3) x4_5
                 replace p14 := eq_true p14
                 replace q14 := eq_true q14
                 have p290 : 0 ≤ (x3_1 : Int) := of_decide_eq_true (by first | (with_reducible assumption) | assumption)
                 have q290 : x3_1 < (l0.length : Int) := of_decide_eq_true (by first | (with_reducible assumption) | assumption)
                 obtain ⟨ad290, e290, hx290_0, hx290_1, hx290_2, hx290_3, hx290_4⟩ := at_T46 HR0.out x3_1 p290 q290
                 obtain rfl : ad288 = ad290 := (by injection e290)
                 replace p290 := eq_true p290
                 replace q290 := eq_true q290
                 have p16 : 0 ≤ (x4_5 : Int) := of_decide_eq_true (by first | (with_reducible assumption) | assumption)
                 have q16 : x4_5 < (((rd_T46 l0 x3_1).f3).size : Int) := of_decide_eq_true (by first | (with_reducible assumption) | assumption)
                 have hx16 := bt_at ((rd_T46 l0 x3_1).f3) x4_5
                 replace p16 := eq_true p16
                 replace q16 := eq_true q16
                 go_wp2
                 go_roundg k5
                 case measure => have := HK1.out; have := HJ1.out; have := HJ3.out; have := HJ7.out; have := HK5.out; omega
                 case rel => exact ⟨(wrap64 (x4_5 + 1)), (by first | rfl | (simp; done) | (simp [*]; done)), H', ⟨by have := HK1.out; have := HJ1.out; have := HJ3.out; have := HJ7.out; have := HK5.out; omega⟩, by repeat (first | exact Drawn0.refl _ | apply Drawn0.step)⟩
                ·rw [if_neg c17] at H
                 have c17b0 : ((bt ((rd_T46 l0 x3_1).f3) x4_5) == 49) = false := beq_eq_false_iff_ne.mpr c17
                 have c17b1 : ((bt ((rd_T46 l0 x3_1).f3) x4_5) != 49) = true := bne_iff_ne.mpr c17
                 obtain rfl := Option.some.inj H
                 have p288 : 0 ≤ (x3_1 : Int) := of_decide_eq_true (by first | (with_reducible assumption) | assumption)
                 have q288 : x3_1 < (l0.length : Int) := of_decide_eq_true (by first | (with_reducible assumption) | assumption)
                 obtain ⟨ad288, e288, hx288_0, hx288_1, hx288_2, hx288_3, hx288_4⟩ := at_T46 HR0.out x3_1 p288 q288
                 cases e288
                 replace p288 := eq_true p288
                 replace q288 := eq_true q288
                 have p289 : 0 ≤ (x3_1 : Int) := of_decide_eq_true (by first | (with_reducible assumption) | assumption)
                 have q289 : x3_1 < (l0.length : Int) := of_decide_eq_true (by first | (with_reducible assumption) | assumption)
                 obtain ⟨ad289, e289, hx289_0, hx289_1, hx289_2, hx289_3, hx289_4⟩ := at_T46 HR0.out x3_1 p289 q289
                 obtain rfl : ad288 = ad289 := (by injection e289)
                 replace p289 := eq_true p289
                 replace q289 := eq_true q289
                 have p14 : 0 ≤ (x4_5 : Int) := of_decide_eq_true (by first | (with_reducible assumption) | assumption)
                 have q14 : x4_5 < (((rd_T46 l0 x3_1).f3).size : Int) := of_decide_eq_true (by first | (with_reducible assumption) | assumption)
                 have hx14 := bt_at ((rd_T46 l0 x3_1).f3) x4_5
                 replace p14 := eq_true p14
                 replace q14 := eq_true q14
                 have p290 : 0 ≤ (x3_1 : Int) := of_decide_eq_true (by first | (with_reducible assumption) | assumption)
                 have q290 : x3_1 < (l0.length : Int) := of_decide_eq_true (by first | (with_reducible assumption) | assumption)
                 obtain ⟨ad290, e290, hx290_0, hx290_1, hx290_2, hx290_3, hx290_4⟩ := at_T46 HR0.out x3_1 p290 q290
                 obtain rfl : ad288 = ad290 := (by injection e290)
                 replace p290 := eq_true p290
                 replace q290 := eq_true q290
                 have p16 : 0 ≤ (x4_5 : Int) := of_decide_eq_true (by first | (with_reducible assumption) | assumption)
                 have q16 : x4_5 < (((rd_T46 l0 x3_1).f3).size : Int) := of_decide_eq_true (by first | (with_reducible assumption) | assumption)
                 have hx16 := bt_at ((rd_T46 l0 x3_1).f3) x4_5
                 replace p16 := eq_true p16
                 replace q16 := eq_true q16
                 go_wp2
                 go_ret
                 exact ⟨by first | rfl | (simp; done) | (simp [*]; done), by repeat (first | exact Drawn0.refl _ | apply Drawn0.step)⟩
              ·rw [if_neg c13] at H
               exact absurd H (by simp)
             ·rw [if_neg c12] at H
              have c12b0 : decide (x4_5 < (((rd_T46 l0 x3_1).f3).size : Int)) = false := decide_eq_false c12
              clear c12
              have H' := Aside0.mk H
              clear H
              have p288 : 0 ≤ (x3_1 : Int) := of_decide_eq_true (by first | (with_reducible assumption) | assumption)
              have q288 : x3_1 < (l0.length : Int) := of_decide_eq_true (by first | (with_reducible assumption) | assumption)
              obtain ⟨ad288, e288, hx288_0, hx288_1, hx288_2, hx288_3, hx288_4⟩ := at_T46 HR0.out x3_1 p288 q288
              cases e288
              replace p288 := eq_true p288
              replace q288 := eq_true q288
              go_wp2
              go_roundg k5
              case measure => have := HK1.out; have := HJ1.out; have := HJ3.out; have := HJ7.out; have := HK5.out; omega
              case rel => exact ⟨(wrap64 (x3_1 + 1)), (by first | rfl | (simp; done) | (simp [*]; done)), H', ⟨by have := HK1.out; have := HJ1.out; have := HJ3.out; have := HJ7.out; have := HK5.out; omega⟩, by repeat (first | exact Drawn0.refl _ | apply Drawn0.step)⟩
            ·rw [if_neg c11] at H
             exact absurd H (by simp)
           ·rw [if_neg c10] at H
            exact absurd H (by simp)

end Go.Proofs.Ytbggkaofkohecaa.PSyncRoundTrips
