-- Written by a program of this session (wip/tools/pr.py), which calls the kit's print with changes of its own.
import Derived.Test.YteeejopgaegaoaaDoorPCheckLimitsx0
import Derived.Test.YteeejopgaegaoaaDoorPCheckLimitsx1
import Derived.Test.YteeejopgaegaoaaDoorPCheckLimitsx2
import Derived.Test.YteeejopgaegaoaaDoorPCheckLimitsx3
namespace Go.Proofs.YteeejopgaegaoaaDoor.PCheckLimits
open Go.RowKit Go.Proofs.YteeejopgaegaoaaDoorW.PrintWords Go.Proofs.YteeejopgaegaoaaDoorW.PrintLast Go.Proofs.YteeejopgaegaoaaDoorW.PrintMore
attribute [local go_sem] max2_int min2_int max_two min_two max_three min_three max_four min_four   -- for this text's walks alone
set_option linter.unusedVariables false
set_option linter.unusedSimpArgs false

/-! ### check_Xor: function 18 -/
def check_Xor.l0 : Nat → ByteArray → Int → Int → Int → Option (Int)
 | 0, _, _, _, _ => none
 | k + 1, x0, x3, x6, x7 => if x7 < x6 then (if 0 ≤ x7 then (if x7 < (x0.size : Int) then (check_Xor.l0 k x0 (Go.bits .xor .u8 x3 (bt x0 x7)) x6 (wrap64 (x7 + 1))) else (none)) else (none)) else (some (wrap64 (x3)))
def check_Xor.f (k : Nat) (a0 : ByteArray) : Option (Int) := check_Xor.l0 k a0 0 (a0.size : Int) 0
theorem check_Xor.mono_l : ∀ k, (∀ y0 y1 y2 y3, LeO (check_Xor.l0 k y0 y1 y2 y3) (check_Xor.l0 (k + 1) y0 y1 y2 y3))
 | 0 => fun _ _ _ _ r h => by simp [check_Xor.l0] at h
 | k + 1 => by
  have ih0 := check_Xor.mono_l k
  ·intro y0 y1 y2 y3
   unfold check_Xor.l0
   repeat' first
   | (with_reducible exact ih0 _ _ _ _)
   | (with_reducible exact LeO.refl _)
   | (with_reducible exact LeO.none _)
   | (with_reducible refine LeO.ite ?_ ?_)
   | (with_reducible refine LeO.bind ?_ (fun _ => ?_))
   | exact ih0 _ _ _ _
   | exact LeO.none _
   | refine LeO.ite ?_ ?_
   | refine LeO.bind ?_ (fun _ => ?_)
theorem check_Xor.mono : ∀ a0 k, LeO (check_Xor.f k a0) (check_Xor.f (k + 1) a0) := by
 intro a0 k
 have ih0 := check_Xor.mono_l k
 unfold check_Xor.f
 repeat' first
   | (with_reducible exact ih0 _ _ _ _)
   | (with_reducible exact LeO.refl _)
   | (with_reducible exact LeO.none _)
   | (with_reducible refine LeO.ite ?_ ?_)
   | (with_reducible refine LeO.bind ?_ (fun _ => ?_))
   | exact ih0 _ _ _ _
   | exact LeO.none _
   | refine LeO.ite ?_ ?_
   | refine LeO.bind ?_ (fun _ => ?_)
set_option maxHeartbeats 8000000 in
set_option maxRecDepth 100000 in
theorem check_Xor.calls (k : Nat) (a0 : ByteArray) (r : Int) (w : World) (h : check_Xor.f k a0 = some r) :
  Calls Tryd.prog 18 #[.string a0] w fun e w' => e = .returned (.int .i64 r) ∧ Drawn0 w w' := by
 have H : (check_Xor.l0 k a0 0 (a0.size : Int) 0) = some r := h
 clear h
 have H' := Aside0.mk H
 clear H
 go_enter Tryd.func18, Tryd.ntmps18
 go_wp2
 go_loopg [3, 7] k (fun kq v3 v7 w' => ∃ (x3_1 : Int) (x7_1 : Int), v3 = .int .u8 x3_1 ∧ v7 = .int .i64 x7_1 ∧ Aside0 (check_Xor.l0 kq a0 x3_1 (a0.size : Int) x7_1 = some r) ∧ Aside0 (kq ≤ k) ∧ Drawn0 w w')
 case atStart => exact ⟨(0), (0), (by first | rfl | (simp; done) | (simp [*]; done)), (by first | rfl | (simp; done) | (simp [*]; done)), H', ⟨Nat.le_refl _⟩, by repeat (first | exact Drawn0.refl _ | apply Drawn0.step)⟩
 case round =>
  clear H'
  try clear c1
  obtain ⟨x3_1, x7_1, rfl, rfl, HA, HK1, ⟨m1, rfl⟩⟩ := hrel
  cases gk with
  | zero => exact absurd HA.out (by simp [check_Xor.l0])
  | succ k1 =>
   have H := HA.out
   clear HA
   simp only [check_Xor.l0] at H
   by_cases c2 : x7_1 < (a0.size : Int)
   ·rw [if_pos c2] at H
    have c2b0 : decide (x7_1 < (a0.size : Int)) = true := decide_eq_true c2
    clear c2
    by_cases c3 : 0 ≤ x7_1
    ·rw [if_pos c3] at H
     have c3b0 : decide (0 ≤ x7_1) = true := decide_eq_true c3
     clear c3
     by_cases c4 : x7_1 < (a0.size : Int)
     ·rw [if_pos c4] at H
      have c4b0 : decide (x7_1 < (a0.size : Int)) = true := decide_eq_true c4
      clear c4
      have H' := Aside0.mk H
      clear H
      have p5 : 0 ≤ (x7_1 : Int) := of_decide_eq_true (by first | (with_reducible assumption) | assumption)
      have q5 : x7_1 < (a0.size : Int) := of_decide_eq_true (by first | (with_reducible assumption) | assumption)
      have hx5 := bt_at a0 x7_1
      replace p5 := eq_true p5
      replace q5 := eq_true q5
      go_wp2
      go_roundg k1
      case measure => have := HK1.out; omega
      case rel => exact ⟨(Go.bits .xor .u8 x3_1 (bt a0 x7_1)), (wrap64 (x7_1 + 1)), (by first | rfl | (simp; done) | (simp [*]; done)), (by first | rfl | (simp; done) | (simp [*]; done)), H', ⟨by have := HK1.out; omega⟩, by repeat (first | exact Drawn0.refl _ | apply Drawn0.step)⟩
     ·rw [if_neg c4] at H
      exact absurd H (by simp)
    ·rw [if_neg c3] at H
     exact absurd H (by simp)
   ·rw [if_neg c2] at H
    have c2b0 : decide (x7_1 < (a0.size : Int)) = false := decide_eq_false c2
    clear c2
    obtain rfl := Option.some.inj H
    go_wp2
    go_ret
    exact ⟨by first | rfl | (simp; done) | (simp [*]; done), by repeat (first | exact Drawn0.refl _ | apply Drawn0.step)⟩

/-! ### check_Carry: function 20 -/
def check_Carry.l0 : Nat → ByteArray → Int → Int → Int → Option (Int)
 | 0, _, _, _, _ => none
 | k + 1, x0, x3, x6, x7 => if x7 < x6 then (if 0 ≤ x7 then (if x7 < (x0.size : Int) then (if (wrap64 (x3 + (wrap64 (bt x0 x7)))) > 255 then (check_Carry.l0 k x0 (wrap64 ((wrap64 (x3 + (wrap64 (bt x0 x7)))) - 255)) x6 (wrap64 (x7 + 1))) else (check_Carry.l0 k x0 (wrap64 (x3 + (wrap64 (bt x0 x7)))) x6 (wrap64 (x7 + 1)))) else (none)) else (none)) else (some (wrap64 (255 - x3)))
def check_Carry.f (k : Nat) (a0 : ByteArray) : Option (Int) := check_Carry.l0 k a0 0 (a0.size : Int) 0
theorem check_Carry.mono_l : ∀ k, (∀ y0 y1 y2 y3, LeO (check_Carry.l0 k y0 y1 y2 y3) (check_Carry.l0 (k + 1) y0 y1 y2 y3))
 | 0 => fun _ _ _ _ r h => by simp [check_Carry.l0] at h
 | k + 1 => by
  have ih0 := check_Carry.mono_l k
  ·intro y0 y1 y2 y3
   unfold check_Carry.l0
   repeat' first
   | (with_reducible exact ih0 _ _ _ _)
   | (with_reducible exact LeO.refl _)
   | (with_reducible exact LeO.none _)
   | (with_reducible refine LeO.ite ?_ ?_)
   | (with_reducible refine LeO.bind ?_ (fun _ => ?_))
   | exact ih0 _ _ _ _
   | exact LeO.none _
   | refine LeO.ite ?_ ?_
   | refine LeO.bind ?_ (fun _ => ?_)
theorem check_Carry.mono : ∀ a0 k, LeO (check_Carry.f k a0) (check_Carry.f (k + 1) a0) := by
 intro a0 k
 have ih0 := check_Carry.mono_l k
 unfold check_Carry.f
 repeat' first
   | (with_reducible exact ih0 _ _ _ _)
   | (with_reducible exact LeO.refl _)
   | (with_reducible exact LeO.none _)
   | (with_reducible refine LeO.ite ?_ ?_)
   | (with_reducible refine LeO.bind ?_ (fun _ => ?_))
   | exact ih0 _ _ _ _
   | exact LeO.none _
   | refine LeO.ite ?_ ?_
   | refine LeO.bind ?_ (fun _ => ?_)
set_option maxHeartbeats 8000000 in
set_option maxRecDepth 100000 in
theorem check_Carry.calls (k : Nat) (a0 : ByteArray) (r : Int) (w : World) (h : check_Carry.f k a0 = some r) :
  Calls Tryd.prog 20 #[.string a0] w fun e w' => e = .returned (.int .i64 r) ∧ Drawn0 w w' := by
 have H : (check_Carry.l0 k a0 0 (a0.size : Int) 0) = some r := h
 clear h
 have H' := Aside0.mk H
 clear H
 go_enter Tryd.func20, Tryd.ntmps20
 go_wp2
 go_loopg [3, 7] k (fun kq v3 v7 w' => ∃ (x3_1 : Int) (x7_1 : Int), v3 = .int .i64 x3_1 ∧ v7 = .int .i64 x7_1 ∧ Aside0 (check_Carry.l0 kq a0 x3_1 (a0.size : Int) x7_1 = some r) ∧ Aside0 (kq ≤ k) ∧ Drawn0 w w')
 case atStart => exact ⟨(0), (0), (by first | rfl | (simp; done) | (simp [*]; done)), (by first | rfl | (simp; done) | (simp [*]; done)), H', ⟨Nat.le_refl _⟩, by repeat (first | exact Drawn0.refl _ | apply Drawn0.step)⟩
 case round =>
  clear H'
  obtain ⟨x3_1, x7_1, rfl, rfl, HA, HK1, ⟨m1, rfl⟩⟩ := hrel
  cases gk with
  | zero => exact absurd HA.out (by simp [check_Carry.l0])
  | succ k1 =>
   have H := HA.out
   clear HA
   simp only [check_Carry.l0] at H
   by_cases c2 : x7_1 < (a0.size : Int)
   ·rw [if_pos c2] at H
    have c2b0 : decide (x7_1 < (a0.size : Int)) = true := decide_eq_true c2
    clear c2
    by_cases c3 : 0 ≤ x7_1
    ·rw [if_pos c3] at H
     have c3b0 : decide (0 ≤ x7_1) = true := decide_eq_true c3
     clear c3
     by_cases c4 : x7_1 < (a0.size : Int)
     ·rw [if_pos c4] at H
      have c4b0 : decide (x7_1 < (a0.size : Int)) = true := decide_eq_true c4
      clear c4
      by_cases c6 : (wrap64 (x3_1 + (wrap64 (bt a0 x7_1)))) > 255
      ·rw [if_pos c6] at H
       have c6b0 : decide (255 < (wrap64 (x3_1 + (wrap64 (bt a0 x7_1))))) = true := decide_eq_true c6
       clear c6
       have H' := Aside0.mk H
       clear H
       have p5 : 0 ≤ (x7_1 : Int) := of_decide_eq_true (by first | (with_reducible assumption) | assumption)
       have q5 : x7_1 < (a0.size : Int) := of_decide_eq_true (by first | (with_reducible assumption) | assumption)
       have hx5 := bt_at a0 x7_1
       replace p5 := eq_true p5
       replace q5 := eq_true q5
       go_wp2
       go_roundg k1
       case measure => have := HK1.out; omega
       case rel => exact ⟨(wrap64 ((wrap64 (x3_1 + (wrap64 (bt a0 x7_1)))) - 255)), (wrap64 (x7_1 + 1)), (by first | rfl | (simp; done) | (simp [*]; done)), (by first | rfl | (simp; done) | (simp [*]; done)), H', ⟨by have := HK1.out; omega⟩, by repeat (first | exact Drawn0.refl _ | apply Drawn0.step)⟩
      ·rw [if_neg c6] at H
       have c6b0 : decide (255 < (wrap64 (x3_1 + (wrap64 (bt a0 x7_1))))) = false := decide_eq_false c6
       clear c6
       have H' := Aside0.mk H
       clear H
       have p5 : 0 ≤ (x7_1 : Int) := of_decide_eq_true (by first | (with_reducible assumption) | assumption)
       have q5 : x7_1 < (a0.size : Int) := of_decide_eq_true (by first | (with_reducible assumption) | assumption)
       have hx5 := bt_at a0 x7_1
       replace p5 := eq_true p5
       replace q5 := eq_true q5
       go_wp2
       go_roundg k1
       case measure => have := HK1.out; omega
       case rel => exact ⟨(wrap64 (x3_1 + (wrap64 (bt a0 x7_1)))), (wrap64 (x7_1 + 1)), (by first | rfl | (simp; done) | (simp [*]; done)), (by first | rfl | (simp; done) | (simp [*]; done)), H', ⟨by have := HK1.out; omega⟩, by repeat (first | exact Drawn0.refl _ | apply Drawn0.step)⟩
     ·rw [if_neg c4] at H
      exact absurd H (by simp)
    ·rw [if_neg c3] at H
     exact absurd H (by simp)
   ·rw [if_neg c2] at H
    have c2b0 : decide (x7_1 < (a0.size : Int)) = false := decide_eq_false c2
    clear c2
    obtain rfl := Option.some.inj H
    go_wp2
    go_ret
    exact ⟨by first | rfl | (simp; done) | (simp [*]; done), by repeat (first | exact Drawn0.refl _ | apply Drawn0.step)⟩

/-! ### check_Named: function 27: proved by hand -/

/-! ### signalbenchlaw04_awake: function 11 -/
def signalbenchlaw04_awake.j0 : Nat → Int → Int → Int → Bool → Int → Int → Int → Int → Bool → Option (Bool)
 | 0, _, _, _, _, _, _, _, _, _ => none
 | k + 1, x3, x5, x9, x51, x121000, x121001, x121002, x121003, x121004 => if x51 = true then (some false) else ((check_Right.f k x121000 x121001 x121002 x121003 x121004).bind fun t134 => (if t134 = true then (if x3 = 7 then (if x5 = 137 then (if x9 = 65535 then ((check_Sum.f k (⟨#[255, 2]⟩ : ByteArray)).bind fun t135 => (if t135 = 1 then ((check_Xor.f k (⟨#[5, 6]⟩ : ByteArray)).bind fun t136 => (if t136 = 3 then ((check_Carry.f k (⟨#[74, 85, 147, 229]⟩ : ByteArray)).bind fun t137 => (some (t137 == 230))) else (some false))) else (some false))) else (some false)) else (some false)) else (some false)) else (some false)))
def signalbenchlaw04_awake.f (k : Nat)  : Option (Bool) := (check_Named.f (⟨#[99, 114, 99, 56]⟩ : ByteArray)).bind fun bt114 => ((check_Bytes.f k bt114.1 bt114.2.1 bt114.2.2.1 bt114.2.2.2.1 bt114.2.2.2.2.1 (⟨#[1]⟩ : ByteArray)).bind fun bt121 => ((check_Bytes.f k bt114.1 bt114.2.1 bt114.2.2.1 bt114.2.2.2.1 bt114.2.2.2.2.1 (⟨#[128]⟩ : ByteArray)).bind fun bt123 => ((check_Named.f (⟨#[99, 114, 99, 49, 54, 109, 111, 100, 98, 117, 115]⟩ : ByteArray)).bind fun bt125 => ((check_Bits.f k bt125.1 bt125.2.1 bt125.2.2.1 bt125.2.2.2.1 bt125.2.2.2.2.1 (⟨#[]⟩ : ByteArray)).bind fun bt132 => (if bt114.2.2.2.2.2 = true then (if bt125.2.2.2.2.2 = true then (if bt121.2 = 0 then (if bt123.2 = 0 then (signalbenchlaw04_awake.j0 k bt121.1 bt123.1 bt132.1 (bt132.2 != 0) bt114.1 bt114.2.1 bt114.2.2.1 bt114.2.2.2.1 bt114.2.2.2.2.1) else (signalbenchlaw04_awake.j0 k bt121.1 bt123.1 bt132.1 true bt114.1 bt114.2.1 bt114.2.2.1 bt114.2.2.2.1 bt114.2.2.2.2.1)) else (signalbenchlaw04_awake.j0 k bt121.1 bt123.1 bt132.1 true bt114.1 bt114.2.1 bt114.2.2.1 bt114.2.2.2.1 bt114.2.2.2.2.1)) else (signalbenchlaw04_awake.j0 k bt121.1 bt123.1 bt132.1 true bt114.1 bt114.2.1 bt114.2.2.1 bt114.2.2.2.1 bt114.2.2.2.2.1)) else (signalbenchlaw04_awake.j0 k bt121.1 bt123.1 bt132.1 true bt114.1 bt114.2.1 bt114.2.2.1 bt114.2.2.2.1 bt114.2.2.2.2.1))))))
theorem signalbenchlaw04_awake.mono_l : ∀ k, (∀ y0 y1 y2 y3 y4 y5 y6 y7 y8, LeO (signalbenchlaw04_awake.j0 k y0 y1 y2 y3 y4 y5 y6 y7 y8) (signalbenchlaw04_awake.j0 (k + 1) y0 y1 y2 y3 y4 y5 y6 y7 y8))
 | 0 => fun _ _ _ _ _ _ _ _ _ r h => by simp [signalbenchlaw04_awake.j0] at h
 | k + 1 => by
  have ih0 := signalbenchlaw04_awake.mono_l k
  ·intro y0 y1 y2 y3 y4 y5 y6 y7 y8
   unfold signalbenchlaw04_awake.j0
   repeat' first
   | (with_reducible exact ih0 _ _ _ _ _ _ _ _ _)
   | (with_reducible exact check_Bits.mono _ _ _ _ _ _ _)
   | (with_reducible exact check_Bytes.mono _ _ _ _ _ _ _)
   | (with_reducible exact check_Carry.mono _ _)
   | (with_reducible exact check_Right.mono _ _ _ _ _ _)
   | (with_reducible exact check_Sum.mono _ _)
   | (with_reducible exact check_Xor.mono _ _)
   | (with_reducible exact LeO.refl _)
   | (with_reducible exact LeO.none _)
   | (with_reducible refine LeO.ite ?_ ?_)
   | (with_reducible refine LeO.bind ?_ (fun _ => ?_))
   | exact ih0 _ _ _ _ _ _ _ _ _
   | exact check_Bits.mono _ _ _ _ _ _ _
   | exact check_Bytes.mono _ _ _ _ _ _ _
   | exact check_Carry.mono _ _
   | exact check_Right.mono _ _ _ _ _ _
   | exact check_Sum.mono _ _
   | exact check_Xor.mono _ _
   | exact LeO.none _
   | refine LeO.ite ?_ ?_
   | refine LeO.bind ?_ (fun _ => ?_)
theorem signalbenchlaw04_awake.mono : ∀ k, LeO (signalbenchlaw04_awake.f k ) (signalbenchlaw04_awake.f (k + 1) ) := by
 intro  k
 have ih0 := signalbenchlaw04_awake.mono_l k
 unfold signalbenchlaw04_awake.f
 repeat' first
   | (with_reducible exact ih0 _ _ _ _ _ _ _ _ _)
   | (with_reducible exact check_Bits.mono _ _ _ _ _ _ _)
   | (with_reducible exact check_Bytes.mono _ _ _ _ _ _ _)
   | (with_reducible exact check_Carry.mono _ _)
   | (with_reducible exact check_Right.mono _ _ _ _ _ _)
   | (with_reducible exact check_Sum.mono _ _)
   | (with_reducible exact check_Xor.mono _ _)
   | (with_reducible exact LeO.refl _)
   | (with_reducible exact LeO.none _)
   | (with_reducible refine LeO.ite ?_ ?_)
   | (with_reducible refine LeO.bind ?_ (fun _ => ?_))
   | exact ih0 _ _ _ _ _ _ _ _ _
   | exact check_Bits.mono _ _ _ _ _ _ _
   | exact check_Bytes.mono _ _ _ _ _ _ _
   | exact check_Carry.mono _ _
   | exact check_Right.mono _ _ _ _ _ _
   | exact check_Sum.mono _ _
   | exact check_Xor.mono _ _
   | exact LeO.none _
   | refine LeO.ite ?_ ?_
   | refine LeO.bind ?_ (fun _ => ?_)
set_option maxHeartbeats 8000000 in
set_option maxRecDepth 100000 in
theorem signalbenchlaw04_awake.calls (k : Nat)  (r : Bool) (w : World) (hT_ : TabOk w) (h : signalbenchlaw04_awake.f k  = some r) :
  Calls Tryd.prog 11 #[] w fun e w' => e = .returned (.bool r) ∧ Below w.heap.size w w' := by
 have hu23 := Tryd.underlying23
 have HB := Aside0.mk (Below.refl w.heap.size w)
 have H : ((check_Named.f (⟨#[99, 114, 99, 56]⟩ : ByteArray)).bind fun bt114 => ((check_Bytes.f k bt114.1 bt114.2.1 bt114.2.2.1 bt114.2.2.2.1 bt114.2.2.2.2.1 (⟨#[1]⟩ : ByteArray)).bind fun bt121 => ((check_Bytes.f k bt114.1 bt114.2.1 bt114.2.2.1 bt114.2.2.2.1 bt114.2.2.2.2.1 (⟨#[128]⟩ : ByteArray)).bind fun bt123 => ((check_Named.f (⟨#[99, 114, 99, 49, 54, 109, 111, 100, 98, 117, 115]⟩ : ByteArray)).bind fun bt125 => ((check_Bits.f k bt125.1 bt125.2.1 bt125.2.2.1 bt125.2.2.2.1 bt125.2.2.2.2.1 (⟨#[]⟩ : ByteArray)).bind fun bt132 => (if bt114.2.2.2.2.2 = true then (if bt125.2.2.2.2.2 = true then (if bt121.2 = 0 then (if bt123.2 = 0 then (signalbenchlaw04_awake.j0 k bt121.1 bt123.1 bt132.1 (bt132.2 != 0) bt114.1 bt114.2.1 bt114.2.2.1 bt114.2.2.2.1 bt114.2.2.2.2.1) else (signalbenchlaw04_awake.j0 k bt121.1 bt123.1 bt132.1 true bt114.1 bt114.2.1 bt114.2.2.1 bt114.2.2.2.1 bt114.2.2.2.2.1)) else (signalbenchlaw04_awake.j0 k bt121.1 bt123.1 bt132.1 true bt114.1 bt114.2.1 bt114.2.2.1 bt114.2.2.2.1 bt114.2.2.2.2.1)) else (signalbenchlaw04_awake.j0 k bt121.1 bt123.1 bt132.1 true bt114.1 bt114.2.1 bt114.2.2.1 bt114.2.2.2.1 bt114.2.2.2.2.1)) else (signalbenchlaw04_awake.j0 k bt121.1 bt123.1 bt132.1 true bt114.1 bt114.2.1 bt114.2.2.1 bt114.2.2.2.1 bt114.2.2.2.2.1))))))) = some r := h
 clear h
 replace H := Option.bind_eq_some_iff.mp H
 obtain ⟨⟨t114, t115, t116, t117, t118, t119⟩, A10, H⟩ := H
 replace H : ((check_Bytes.f k t114 t115 t116 t117 t118 (⟨#[1]⟩ : ByteArray)).bind fun bt121 => ((check_Bytes.f k t114 t115 t116 t117 t118 (⟨#[128]⟩ : ByteArray)).bind fun bt123 => ((check_Named.f (⟨#[99, 114, 99, 49, 54, 109, 111, 100, 98, 117, 115]⟩ : ByteArray)).bind fun bt125 => ((check_Bits.f k bt125.1 bt125.2.1 bt125.2.2.1 bt125.2.2.2.1 bt125.2.2.2.2.1 (⟨#[]⟩ : ByteArray)).bind fun bt132 => (if t119 = true then (if bt125.2.2.2.2.2 = true then (if bt121.2 = 0 then (if bt123.2 = 0 then (signalbenchlaw04_awake.j0 k bt121.1 bt123.1 bt132.1 (bt132.2 != 0) t114 t115 t116 t117 t118) else (signalbenchlaw04_awake.j0 k bt121.1 bt123.1 bt132.1 true t114 t115 t116 t117 t118)) else (signalbenchlaw04_awake.j0 k bt121.1 bt123.1 bt132.1 true t114 t115 t116 t117 t118)) else (signalbenchlaw04_awake.j0 k bt121.1 bt123.1 bt132.1 true t114 t115 t116 t117 t118)) else (signalbenchlaw04_awake.j0 k bt121.1 bt123.1 bt132.1 true t114 t115 t116 t117 t118)))))) = some r := H
 have A1 := Aside0.mk A10
 clear A10
 replace H := Option.bind_eq_some_iff.mp H
 obtain ⟨⟨t121, t122⟩, A20, H⟩ := H
 replace H : ((check_Bytes.f k t114 t115 t116 t117 t118 (⟨#[128]⟩ : ByteArray)).bind fun bt123 => ((check_Named.f (⟨#[99, 114, 99, 49, 54, 109, 111, 100, 98, 117, 115]⟩ : ByteArray)).bind fun bt125 => ((check_Bits.f k bt125.1 bt125.2.1 bt125.2.2.1 bt125.2.2.2.1 bt125.2.2.2.2.1 (⟨#[]⟩ : ByteArray)).bind fun bt132 => (if t119 = true then (if bt125.2.2.2.2.2 = true then (if t122 = 0 then (if bt123.2 = 0 then (signalbenchlaw04_awake.j0 k t121 bt123.1 bt132.1 (bt132.2 != 0) t114 t115 t116 t117 t118) else (signalbenchlaw04_awake.j0 k t121 bt123.1 bt132.1 true t114 t115 t116 t117 t118)) else (signalbenchlaw04_awake.j0 k t121 bt123.1 bt132.1 true t114 t115 t116 t117 t118)) else (signalbenchlaw04_awake.j0 k t121 bt123.1 bt132.1 true t114 t115 t116 t117 t118)) else (signalbenchlaw04_awake.j0 k t121 bt123.1 bt132.1 true t114 t115 t116 t117 t118))))) = some r := H
 have A2 := Aside0.mk A20
 clear A20
 replace H := Option.bind_eq_some_iff.mp H
 obtain ⟨⟨t123, t124⟩, A30, H⟩ := H
 replace H : ((check_Named.f (⟨#[99, 114, 99, 49, 54, 109, 111, 100, 98, 117, 115]⟩ : ByteArray)).bind fun bt125 => ((check_Bits.f k bt125.1 bt125.2.1 bt125.2.2.1 bt125.2.2.2.1 bt125.2.2.2.2.1 (⟨#[]⟩ : ByteArray)).bind fun bt132 => (if t119 = true then (if bt125.2.2.2.2.2 = true then (if t122 = 0 then (if t124 = 0 then (signalbenchlaw04_awake.j0 k t121 t123 bt132.1 (bt132.2 != 0) t114 t115 t116 t117 t118) else (signalbenchlaw04_awake.j0 k t121 t123 bt132.1 true t114 t115 t116 t117 t118)) else (signalbenchlaw04_awake.j0 k t121 t123 bt132.1 true t114 t115 t116 t117 t118)) else (signalbenchlaw04_awake.j0 k t121 t123 bt132.1 true t114 t115 t116 t117 t118)) else (signalbenchlaw04_awake.j0 k t121 t123 bt132.1 true t114 t115 t116 t117 t118)))) = some r := H
 have A3 := Aside0.mk A30
 clear A30
 replace H := Option.bind_eq_some_iff.mp H
 obtain ⟨⟨t125, t126, t127, t128, t129, t130⟩, A40, H⟩ := H
 replace H : ((check_Bits.f k t125 t126 t127 t128 t129 (⟨#[]⟩ : ByteArray)).bind fun bt132 => (if t119 = true then (if t130 = true then (if t122 = 0 then (if t124 = 0 then (signalbenchlaw04_awake.j0 k t121 t123 bt132.1 (bt132.2 != 0) t114 t115 t116 t117 t118) else (signalbenchlaw04_awake.j0 k t121 t123 bt132.1 true t114 t115 t116 t117 t118)) else (signalbenchlaw04_awake.j0 k t121 t123 bt132.1 true t114 t115 t116 t117 t118)) else (signalbenchlaw04_awake.j0 k t121 t123 bt132.1 true t114 t115 t116 t117 t118)) else (signalbenchlaw04_awake.j0 k t121 t123 bt132.1 true t114 t115 t116 t117 t118))) = some r := H
 have A4 := Aside0.mk A40
 clear A40
 replace H := Option.bind_eq_some_iff.mp H
 obtain ⟨⟨t132, t133⟩, A50, H⟩ := H
 replace H : (if t119 = true then (if t130 = true then (if t122 = 0 then (if t124 = 0 then (signalbenchlaw04_awake.j0 k t121 t123 t132 (t133 != 0) t114 t115 t116 t117 t118) else (signalbenchlaw04_awake.j0 k t121 t123 t132 true t114 t115 t116 t117 t118)) else (signalbenchlaw04_awake.j0 k t121 t123 t132 true t114 t115 t116 t117 t118)) else (signalbenchlaw04_awake.j0 k t121 t123 t132 true t114 t115 t116 t117 t118)) else (signalbenchlaw04_awake.j0 k t121 t123 t132 true t114 t115 t116 t117 t118)) = some r := H
 have A5 := Aside0.mk A50
 clear A50
 have HC6 := Aside0.mk H
 clear H
 go_enter Tryd.func11, Tryd.ntmps11
 go_upto_region 6 with (first | ((with_reducible refine gate_callee (f := 27) rfl ?_); refine goesL_ (some 12) rfl rfl Tryd.func27 (by kernel_rfl) rfl #[.string (⟨#[99, 114, 99, 56]⟩ : ByteArray)] rfl (by (try simp only [List.map_toArray, List.map_cons, List.map_nil]); first | done | rfl | (simp only [List.length_drop, List.length_take]; rfl)) ?_; (with_reducible refine (check_Named.calls (⟨#[99, 114, 99, 56]⟩ : ByteArray) t114 t115 t116 t117 t118 t119 _ ?side1 A1.out).mono ?_); (case side1 => refine TabOk.below hT_ ?_; repeat (first | (with_reducible first | exact HB.out | apply below_alloc | apply pw_below_drewN | apply below_drew1) | exact HB.out)); rintro e w7 ⟨rfl, hb⟩; refine ⟨_, rfl, ?_⟩; have n0_ := Aside0.mk (below_step (hbw HB.out) hb); clear HB; have HB := n0_; clear n0_; (try clear hb); (try clear hb2); (try clear hk); (try clear hi)) | ((with_reducible refine gate_dst (N := 1) rfl ?_); refine box_event ?hg (N := 1) ?hd (cs := #[.int .i64 0, .int .i64 0, .int .i64 0, .int .i64 0, .bool false]) (t := 23) ?hr ?_; (case hd => rfl); (case hg => rfl); (case hr => first | (go_simp; done) | (go_simp; rfl)); intro gb120 hg w8 hbox hb; have n0_ := Aside0.mk (below_step (hbw HB.out) hb); have n1_ := Aside0.mk (hbox); have n2_ := Aside0.mk ((by rw [hg]; exact (below_size (hbw HB.out)) : w.heap.size ≤ gb120)); have n3_ := Aside0.mk ((by rw [hg]; exact (below_size (hbw HB.out)) : w.heap.size ≤ gb120)); clear HB; have HB := n0_; have BK120 := n1_; have GW120 := n2_; have GE120 := n3_; clear n0_ n1_ n2_ n3_; clear hb hbox hg; have hcz9_0 : w8.cell? ⟨gb120, 0, none⟩ = some (.int .i64 0) := (blk_cell BK120.out 0).trans rfl; have hcz9_1 : w8.cell? ⟨gb120, 1, none⟩ = some (.int .i64 0) := (blk_cell BK120.out 1).trans rfl; have hcz9_2 : w8.cell? ⟨gb120, 2, none⟩ = some (.int .i64 0) := (blk_cell BK120.out 2).trans rfl; have hcz9_3 : w8.cell? ⟨gb120, 3, none⟩ = some (.int .i64 0) := (blk_cell BK120.out 3).trans rfl; have hcz9_4 : w8.cell? ⟨gb120, 4, none⟩ = some (.bool false) := (blk_cell BK120.out 4).trans rfl; have hfz9_0 := blk_frozen BK120.out 0; have hfz9_1 := blk_frozen BK120.out 1; have hfz9_2 := blk_frozen BK120.out 2; have hfz9_3 := blk_frozen BK120.out 3; have hfz9_4 := blk_frozen BK120.out 4) | ((with_reducible refine gate_callee (f := 14) rfl ?_); refine goesL_ (some 17) rfl rfl Tryd.func14 (by kernel_rfl) rfl #[.agg #[.int .i64 t114, .int .i64 t115, .int .i64 t116, .int .i64 t117, .bool t118], .string (⟨#[1]⟩ : ByteArray)] rfl (by (try simp only [List.map_toArray, List.map_cons, List.map_nil]); first | done | rfl | (simp only [List.length_drop, List.length_take]; rfl)) ?_; (with_reducible refine (check_Bytes.calls k t114 t115 t116 t117 t118 (⟨#[1]⟩ : ByteArray) t121 t122 _ A2.out).mono ?_); rintro e w10 ⟨rfl, hb⟩; refine ⟨_, rfl, ?_⟩; have n0_ := Aside0.mk (blk_below (g := gb120) (o := .cells #[.int .i64 t114, .int .i64 t115, .int .i64 t116, .int .i64 t117, .bool t118] 23 (0, 0)) (by (with_reducible repeat (first | refine blk_drewN ?_ _ | refine blk_drew ?_ | refine blk_alloc ?_ _)); refine blk_put (cs := #[.int .i64 t114, .int .i64 t115, .int .i64 t116, .int .i64 t117, .bool false]) ?_ 4 _ rfl; (with_reducible repeat (first | refine blk_drewN ?_ _ | refine blk_drew ?_ | refine blk_alloc ?_ _)); refine blk_put (cs := #[.int .i64 t114, .int .i64 t115, .int .i64 t116, .int .i64 0, .bool false]) ?_ 3 _ rfl; (with_reducible repeat (first | refine blk_drewN ?_ _ | refine blk_drew ?_ | refine blk_alloc ?_ _)); refine blk_put (cs := #[.int .i64 t114, .int .i64 t115, .int .i64 0, .int .i64 0, .bool false]) ?_ 2 _ rfl; (with_reducible repeat (first | refine blk_drewN ?_ _ | refine blk_drew ?_ | refine blk_alloc ?_ _)); refine blk_put (cs := #[.int .i64 t114, .int .i64 0, .int .i64 0, .int .i64 0, .bool false]) ?_ 1 _ rfl; (with_reducible repeat (first | refine blk_drewN ?_ _ | refine blk_drew ?_ | refine blk_alloc ?_ _)); refine blk_put (cs := #[.int .i64 0, .int .i64 0, .int .i64 0, .int .i64 0, .bool false]) ?_ 0 _ rfl; (with_reducible repeat (first | refine blk_drewN ?_ _ | refine blk_drew ?_ | refine blk_alloc ?_ _)); exact BK120.out) hb); have n1_ := Aside0.mk (below_step (hbw HB.out) hb); clear BK120; clear HB; have BK120 := n0_; have HB := n1_; clear n0_ n1_; (try clear hb); (try clear hb2); (try clear hk); (try clear hi); have hcz11_0 : w10.cell? ⟨gb120, 0, none⟩ = some (.int .i64 t114) := (blk_cell BK120.out 0).trans rfl; have hcz11_1 : w10.cell? ⟨gb120, 1, none⟩ = some (.int .i64 t115) := (blk_cell BK120.out 1).trans rfl; have hcz11_2 : w10.cell? ⟨gb120, 2, none⟩ = some (.int .i64 t116) := (blk_cell BK120.out 2).trans rfl; have hcz11_3 : w10.cell? ⟨gb120, 3, none⟩ = some (.int .i64 t117) := (blk_cell BK120.out 3).trans rfl; have hcz11_4 : w10.cell? ⟨gb120, 4, none⟩ = some (.bool t118) := (blk_cell BK120.out 4).trans rfl; have hfz11_0 := blk_frozen BK120.out 0; have hfz11_1 := blk_frozen BK120.out 1; have hfz11_2 := blk_frozen BK120.out 2; have hfz11_3 := blk_frozen BK120.out 3; have hfz11_4 := blk_frozen BK120.out 4) | ((with_reducible refine gate_callee (f := 14) rfl ?_); refine goesL_ (some 22) rfl rfl Tryd.func14 (by kernel_rfl) rfl #[.agg #[.int .i64 t114, .int .i64 t115, .int .i64 t116, .int .i64 t117, .bool t118], .string (⟨#[128]⟩ : ByteArray)] rfl (by (try simp only [List.map_toArray, List.map_cons, List.map_nil]); first | done | rfl | (simp only [List.length_drop, List.length_take]; rfl)) ?_; (with_reducible refine (check_Bytes.calls k t114 t115 t116 t117 t118 (⟨#[128]⟩ : ByteArray) t123 t124 _ A3.out).mono ?_); rintro e w12 ⟨rfl, hb⟩; refine ⟨_, rfl, ?_⟩; have n0_ := Aside0.mk (blkb BK120.out hb); have n1_ := Aside0.mk (below_step (hbw HB.out) hb); clear BK120; clear HB; have BK120 := n0_; have HB := n1_; clear n0_ n1_; (try clear hb); (try clear hb2); (try clear hk); (try clear hi)) | ((with_reducible refine gate_callee (f := 27) rfl ?_); refine goesL_ (some 26) rfl rfl Tryd.func27 (by kernel_rfl) rfl #[.string (⟨#[99, 114, 99, 49, 54, 109, 111, 100, 98, 117, 115]⟩ : ByteArray)] rfl (by (try simp only [List.map_toArray, List.map_cons, List.map_nil]); first | done | rfl | (simp only [List.length_drop, List.length_take]; rfl)) ?_; (with_reducible refine (check_Named.calls (⟨#[99, 114, 99, 49, 54, 109, 111, 100, 98, 117, 115]⟩ : ByteArray) t125 t126 t127 t128 t129 t130 _ ?side1 A4.out).mono ?_); (case side1 => refine TabOk.below hT_ ?_; repeat (first | (with_reducible first | exact HB.out | apply below_alloc | apply pw_below_drewN | apply below_drew1 | refine below_set ?_ GE120.out) | exact HB.out)); rintro e w13 ⟨rfl, hb⟩; refine ⟨_, rfl, ?_⟩; have n0_ := Aside0.mk (blkb BK120.out hb); have n1_ := Aside0.mk (below_step (hbw HB.out) hb); clear BK120; clear HB; have BK120 := n0_; have HB := n1_; clear n0_ n1_; (try clear hb); (try clear hb2); (try clear hk); (try clear hi)) | ((with_reducible refine gate_dst (N := 7) rfl ?_); refine box_event ?hg (N := 7) ?hd (cs := #[.int .i64 0, .int .i64 0, .int .i64 0, .int .i64 0, .bool false]) (t := 23) ?hr ?_; (case hd => rfl); (case hg => rfl); (case hr => first | (go_simp; done) | (go_simp; rfl)); intro gb131 hg w14 hbox hb; have n0_ := Aside0.mk (blkb BK120.out hb); have n1_ := Aside0.mk (below_step (hbw HB.out) hb); have n2_ := Aside0.mk (hbox); have n3_ := Aside0.mk ((by rw [hg]; exact (below_size (hbw HB.out)) : w.heap.size ≤ gb131)); have n4_ := Aside0.mk ((by rw [hg]; exact (below_size (hbw HB.out)) : w.heap.size ≤ gb131)); have n5_ := Aside0.mk ((by rw [hg]; exact Nat.ne_of_lt (blkl BK120.out) : gb120 ≠ gb131)); have n6_ := Aside0.mk ((by rw [hg]; exact Nat.ne_of_gt (blkl BK120.out) : gb131 ≠ gb120)); clear BK120; clear HB; have BK120 := n0_; have HB := n1_; have BK131 := n2_; have GW131 := n3_; have GE131 := n4_; have NB120_131 := n5_; have NB131_120 := n6_; clear n0_ n1_ n2_ n3_ n4_ n5_ n6_; clear hb hbox hg; have hnb15 := NB131_120.out; have hnc15 := NB120_131.out; have hcz16_0 : w14.cell? ⟨gb131, 0, none⟩ = some (.int .i64 0) := (blk_cell BK131.out 0).trans rfl; have hcz16_1 : w14.cell? ⟨gb131, 1, none⟩ = some (.int .i64 0) := (blk_cell BK131.out 1).trans rfl; have hcz16_2 : w14.cell? ⟨gb131, 2, none⟩ = some (.int .i64 0) := (blk_cell BK131.out 2).trans rfl; have hcz16_3 : w14.cell? ⟨gb131, 3, none⟩ = some (.int .i64 0) := (blk_cell BK131.out 3).trans rfl; have hcz16_4 : w14.cell? ⟨gb131, 4, none⟩ = some (.bool false) := (blk_cell BK131.out 4).trans rfl; have hfz16_0 := blk_frozen BK131.out 0; have hfz16_1 := blk_frozen BK131.out 1; have hfz16_2 := blk_frozen BK131.out 2; have hfz16_3 := blk_frozen BK131.out 3; have hfz16_4 := blk_frozen BK131.out 4) | ((with_reducible refine gate_callee (f := 12) rfl ?_); refine goesL_ (some 31) rfl rfl Tryd.func12 (by kernel_rfl) rfl #[.agg #[.int .i64 t125, .int .i64 t126, .int .i64 t127, .int .i64 t128, .bool t129], .string (⟨#[]⟩ : ByteArray)] rfl (by (try simp only [List.map_toArray, List.map_cons, List.map_nil]); first | done | rfl | (simp only [List.length_drop, List.length_take]; rfl)) ?_; (with_reducible refine (check_Bits.calls k t125 t126 t127 t128 t129 (⟨#[]⟩ : ByteArray) t132 t133 _ A5.out).mono ?_); rintro e w17 ⟨rfl, hb⟩; refine ⟨_, rfl, ?_⟩; have n0_ := Aside0.mk (blk_below (g := gb120) (o := .cells #[.int .i64 t114, .int .i64 t115, .int .i64 t116, .int .i64 t117, .bool t118] 23 (0, 0)) (by (with_reducible repeat (first | refine blk_drewN ?_ _ | refine blk_drew ?_ | refine blk_alloc ?_ _)); refine blk_far ?_ NB120_131.out _; (with_reducible repeat (first | refine blk_drewN ?_ _ | refine blk_drew ?_ | refine blk_alloc ?_ _)); refine blk_far ?_ NB120_131.out _; (with_reducible repeat (first | refine blk_drewN ?_ _ | refine blk_drew ?_ | refine blk_alloc ?_ _)); refine blk_far ?_ NB120_131.out _; (with_reducible repeat (first | refine blk_drewN ?_ _ | refine blk_drew ?_ | refine blk_alloc ?_ _)); refine blk_far ?_ NB120_131.out _; (with_reducible repeat (first | refine blk_drewN ?_ _ | refine blk_drew ?_ | refine blk_alloc ?_ _)); refine blk_far ?_ NB120_131.out _; (with_reducible repeat (first | refine blk_drewN ?_ _ | refine blk_drew ?_ | refine blk_alloc ?_ _)); exact BK120.out) hb); have n1_ := Aside0.mk (blk_below (g := gb131) (o := .cells #[.int .i64 t125, .int .i64 t126, .int .i64 t127, .int .i64 t128, .bool t129] 23 (0, 0)) (by (with_reducible repeat (first | refine blk_drewN ?_ _ | refine blk_drew ?_ | refine blk_alloc ?_ _)); refine blk_put (cs := #[.int .i64 t125, .int .i64 t126, .int .i64 t127, .int .i64 t128, .bool false]) ?_ 4 _ rfl; (with_reducible repeat (first | refine blk_drewN ?_ _ | refine blk_drew ?_ | refine blk_alloc ?_ _)); refine blk_put (cs := #[.int .i64 t125, .int .i64 t126, .int .i64 t127, .int .i64 0, .bool false]) ?_ 3 _ rfl; (with_reducible repeat (first | refine blk_drewN ?_ _ | refine blk_drew ?_ | refine blk_alloc ?_ _)); refine blk_put (cs := #[.int .i64 t125, .int .i64 t126, .int .i64 0, .int .i64 0, .bool false]) ?_ 2 _ rfl; (with_reducible repeat (first | refine blk_drewN ?_ _ | refine blk_drew ?_ | refine blk_alloc ?_ _)); refine blk_put (cs := #[.int .i64 t125, .int .i64 0, .int .i64 0, .int .i64 0, .bool false]) ?_ 1 _ rfl; (with_reducible repeat (first | refine blk_drewN ?_ _ | refine blk_drew ?_ | refine blk_alloc ?_ _)); refine blk_put (cs := #[.int .i64 0, .int .i64 0, .int .i64 0, .int .i64 0, .bool false]) ?_ 0 _ rfl; (with_reducible repeat (first | refine blk_drewN ?_ _ | refine blk_drew ?_ | refine blk_alloc ?_ _)); exact BK131.out) hb); have n2_ := Aside0.mk (below_step (hbw HB.out) hb); clear BK120; clear BK131; clear HB; have BK120 := n0_; have BK131 := n1_; have HB := n2_; clear n0_ n1_ n2_; (try clear hb); (try clear hb2); (try clear hk); (try clear hi)))
 (try simp only [Act.put, List.setIfInBounds_toArray, List.set_cons_zero, List.set_cons_succ])
 go_cut [51] (fun v51 wc => ∃ (kq : Nat) (x51_5 : Bool), v51 = .bool x51_5 ∧ Aside0 (signalbenchlaw04_awake.j0 kq t121 t123 t132 x51_5 t114 t115 t116 t117 t118 = some r) ∧ Aside0 (kq ≤ k) ∧ Aside0 (wc.heap[gb120]? = some (.cells #[.int .i64 t114, .int .i64 t115, .int .i64 t116, .int .i64 t117, .bool t118] 23 (0, 0))) ∧ Aside0 (wc.heap[gb131]? = some (.cells #[.int .i64 t125, .int .i64 t126, .int .i64 t127, .int .i64 t128, .bool t129] 23 (0, 0))) ∧ Aside0 (Below w.heap.size w wc))
 case first =>
  have H := HC6.out
  clear HC6
  by_cases c18 : t119 = true
  ·subst c18
   have H1 : (if t130 = true then (if t122 = 0 then (if t124 = 0 then (signalbenchlaw04_awake.j0 k t121 t123 t132 (t133 != 0) t114 t115 t116 t117 t118) else (signalbenchlaw04_awake.j0 k t121 t123 t132 true t114 t115 t116 t117 t118)) else (signalbenchlaw04_awake.j0 k t121 t123 t132 true t114 t115 t116 t117 t118)) else (signalbenchlaw04_awake.j0 k t121 t123 t132 true t114 t115 t116 t117 t118)) = some r := by rw [if_pos rfl] at H; exact H
   clear H
   have H := H1
   clear H1
   by_cases c19 : t130 = true
   ·subst c19
    have H1 : (if t122 = 0 then (if t124 = 0 then (signalbenchlaw04_awake.j0 k t121 t123 t132 (t133 != 0) t114 t115 t116 t117 t118) else (signalbenchlaw04_awake.j0 k t121 t123 t132 true t114 t115 t116 t117 t118)) else (signalbenchlaw04_awake.j0 k t121 t123 t132 true t114 t115 t116 t117 t118)) = some r := by rw [if_pos rfl] at H; exact H
    clear H
    have H := H1
    clear H1
    by_cases c20 : t122 = 0
    ·rw [if_pos c20] at H
     have c20b0 : (t122 == 0) = true := beq_iff_eq.mpr c20
     have c20b1 : (t122 != 0) = false := bne_eq_false_iff_eq.mpr c20
     clear c20
     (first | rw [c20b0] | (simp only [i64_w, i32_w]; rw [c20b0]) | skip)
     by_cases c21 : t124 = 0
     ·rw [if_pos c21] at H
      have c21b0 : (t124 == 0) = true := beq_iff_eq.mpr c21
      have c21b1 : (t124 != 0) = false := bne_eq_false_iff_eq.mpr c21
      clear c21
      have H' := Aside0.mk H
      clear H
      go_wp2
      go_meet
      case rel => exact ⟨_, ((t133 != 0)), (by first | rfl | (simp; done) | (simp [*]; done)), H', ⟨by first | omega | exact Nat.le_refl _⟩, ⟨by (with_reducible repeat (first | refine blk_drewN ?_ _ | refine blk_drew ?_ | refine blk_alloc ?_ _)); exact BK120.out⟩, ⟨by (with_reducible repeat (first | refine blk_drewN ?_ _ | refine blk_drew ?_ | refine blk_alloc ?_ _)); exact BK131.out⟩, ⟨by repeat (first | (with_reducible first | exact HB.out | apply below_alloc | apply pw_below_drewN | apply below_drew1 | refine below_set ?_ GE120.out | refine below_set ?_ GE131.out) | exact HB.out)⟩⟩
     ·rw [if_neg c21] at H
      have c21b0 : (t124 == 0) = false := beq_eq_false_iff_ne.mpr c21
      have c21b1 : (t124 != 0) = true := bne_iff_ne.mpr c21
      have H' := Aside0.mk H
      clear H
      go_wp2
      go_meet
      case rel => exact ⟨_, (true), (by first | rfl | (simp; done) | (simp [*]; done)), H', ⟨by first | omega | exact Nat.le_refl _⟩, ⟨by (with_reducible repeat (first | refine blk_drewN ?_ _ | refine blk_drew ?_ | refine blk_alloc ?_ _)); exact BK120.out⟩, ⟨by (with_reducible repeat (first | refine blk_drewN ?_ _ | refine blk_drew ?_ | refine blk_alloc ?_ _)); exact BK131.out⟩, ⟨by repeat (first | (with_reducible first | exact HB.out | apply below_alloc | apply pw_below_drewN | apply below_drew1 | refine below_set ?_ GE120.out | refine below_set ?_ GE131.out) | exact HB.out)⟩⟩
    ·rw [if_neg c20] at H
     have c20b0 : (t122 == 0) = false := beq_eq_false_iff_ne.mpr c20
     have c20b1 : (t122 != 0) = true := bne_iff_ne.mpr c20
     (first | rw [c20b0] | (simp only [i64_w, i32_w]; rw [c20b0]) | skip)
     have H' := Aside0.mk H
     clear H
     go_wp2
     go_meet
     case rel => exact ⟨_, (true), (by first | rfl | (simp; done) | (simp [*]; done)), H', ⟨by first | omega | exact Nat.le_refl _⟩, ⟨by (with_reducible repeat (first | refine blk_drewN ?_ _ | refine blk_drew ?_ | refine blk_alloc ?_ _)); exact BK120.out⟩, ⟨by (with_reducible repeat (first | refine blk_drewN ?_ _ | refine blk_drew ?_ | refine blk_alloc ?_ _)); exact BK131.out⟩, ⟨by repeat (first | (with_reducible first | exact HB.out | apply below_alloc | apply pw_below_drewN | apply below_drew1 | refine below_set ?_ GE120.out | refine below_set ?_ GE131.out) | exact HB.out)⟩⟩
   ·replace c19 := Bool.eq_false_iff.mpr c19
    subst c19
    have H1 : (signalbenchlaw04_awake.j0 k t121 t123 t132 true t114 t115 t116 t117 t118) = some r := by rw [if_neg (show ¬ (false = true) by decide)] at H; exact H
    clear H
    have H := H1
    clear H1
    have H' := Aside0.mk H
    clear H
    go_wp2
    go_meet
    case rel => exact ⟨_, (true), (by first | rfl | (simp; done) | (simp [*]; done)), H', ⟨by first | omega | exact Nat.le_refl _⟩, ⟨by (with_reducible repeat (first | refine blk_drewN ?_ _ | refine blk_drew ?_ | refine blk_alloc ?_ _)); exact BK120.out⟩, ⟨by (with_reducible repeat (first | refine blk_drewN ?_ _ | refine blk_drew ?_ | refine blk_alloc ?_ _)); exact BK131.out⟩, ⟨by repeat (first | (with_reducible first | exact HB.out | apply below_alloc | apply pw_below_drewN | apply below_drew1 | refine below_set ?_ GE120.out | refine below_set ?_ GE131.out) | exact HB.out)⟩⟩
  ·replace c18 := Bool.eq_false_iff.mpr c18
   subst c18
   have H1 : (signalbenchlaw04_awake.j0 k t121 t123 t132 true t114 t115 t116 t117 t118) = some r := by rw [if_neg (show ¬ (false = true) by decide)] at H; exact H
   clear H
   have H := H1
   clear H1
   have H' := Aside0.mk H
   clear H
   go_wp2
   go_meet
   case rel => exact ⟨_, (true), (by first | rfl | (simp; done) | (simp [*]; done)), H', ⟨by first | omega | exact Nat.le_refl _⟩, ⟨by (with_reducible repeat (first | refine blk_drewN ?_ _ | refine blk_drew ?_ | refine blk_alloc ?_ _)); exact BK120.out⟩, ⟨by (with_reducible repeat (first | refine blk_drewN ?_ _ | refine blk_drew ?_ | refine blk_alloc ?_ _)); exact BK131.out⟩, ⟨by repeat (first | (with_reducible first | exact HB.out | apply below_alloc | apply pw_below_drewN | apply below_drew1 | refine below_set ?_ GE120.out | refine below_set ?_ GE131.out) | exact HB.out)⟩⟩
 case rest =>
  clear HC6
  try clear c1
  try clear c2
  try clear p2
  try clear c11
  try clear c12
  try clear c14
  try clear c15
  try clear c18
  try clear c19
  try clear c20
  try clear c20b0
  try clear c20b1
  try clear c21
  try clear c21b0
  try clear c21b1
  try clear hcz11_0
  try clear hcz11_1
  try clear hcz11_2
  try clear hcz11_3
  try clear hcz11_4
  try clear hcz16_0
  try clear hcz16_1
  try clear hcz16_2
  try clear hcz16_3
  try clear hcz16_4
  try clear hcz9_0
  try clear hcz9_1
  try clear hcz9_2
  try clear hcz9_3
  try clear hcz9_4
  try clear hfz11_0
  try clear hfz11_1
  try clear hfz11_2
  try clear hfz11_3
  try clear hfz11_4
  try clear hfz16_0
  try clear hfz16_1
  try clear hfz16_2
  try clear hfz16_3
  try clear hfz16_4
  try clear hfz9_0
  try clear hfz9_1
  try clear hfz9_2
  try clear hfz9_3
  try clear hfz9_4
  obtain ⟨kq, x51_5, rfl, HA, HJ5, BK120, BK131, HB⟩ := hcut
  cases kq with
  | zero => exact absurd HA.out (by simp [signalbenchlaw04_awake.j0])
  | succ kj5 =>
   have H := HA.out
   clear HA
   simp only [signalbenchlaw04_awake.j0] at H
   by_cases c22 : x51_5 = true
   ·subst c22
    have H1 : (some false) = some r := by rw [if_pos rfl] at H; exact H
    clear H
    have H := H1
    clear H1
    obtain rfl := Option.some.inj H
    go_wp2
    go_ret
    exact ⟨by first | rfl | (simp [errW_none, errW_some] <;> rfl) | (simp [*, errW_none, errW_some] <;> rfl), by repeat (first | (with_reducible first | exact HB.out | apply below_alloc | apply pw_below_drewN | apply below_drew1 | refine below_set ?_ GE120.out | refine below_set ?_ GE131.out) | exact HB.out)⟩
   ·replace c22 := Bool.eq_false_iff.mpr c22
    subst c22
    have H1 : ((check_Right.f kj5 t114 t115 t116 t117 t118).bind fun t134 => (if t134 = true then (if t121 = 7 then (if t123 = 137 then (if t132 = 65535 then ((check_Sum.f kj5 (⟨#[255, 2]⟩ : ByteArray)).bind fun t135 => (if t135 = 1 then ((check_Xor.f kj5 (⟨#[5, 6]⟩ : ByteArray)).bind fun t136 => (if t136 = 3 then ((check_Carry.f kj5 (⟨#[74, 85, 147, 229]⟩ : ByteArray)).bind fun t137 => (some (t137 == 230))) else (some false))) else (some false))) else (some false)) else (some false)) else (some false)) else (some false))) = some r := by rw [if_neg (show ¬ (false = true) by decide)] at H; exact H
    clear H
    have H := H1
    clear H1
    replace H := Option.bind_eq_some_iff.mp H
    obtain ⟨t134, A230, H⟩ := H
    replace H : (if t134 = true then (if t121 = 7 then (if t123 = 137 then (if t132 = 65535 then ((check_Sum.f kj5 (⟨#[255, 2]⟩ : ByteArray)).bind fun t135 => (if t135 = 1 then ((check_Xor.f kj5 (⟨#[5, 6]⟩ : ByteArray)).bind fun t136 => (if t136 = 3 then ((check_Carry.f kj5 (⟨#[74, 85, 147, 229]⟩ : ByteArray)).bind fun t137 => (some (t137 == 230))) else (some false))) else (some false))) else (some false)) else (some false)) else (some false)) else (some false)) = some r := H
    have A23 := Aside0.mk A230
    clear A230
    by_cases c24 : t134 = true
    ·subst c24
     have H1 : (if t121 = 7 then (if t123 = 137 then (if t132 = 65535 then ((check_Sum.f kj5 (⟨#[255, 2]⟩ : ByteArray)).bind fun t135 => (if t135 = 1 then ((check_Xor.f kj5 (⟨#[5, 6]⟩ : ByteArray)).bind fun t136 => (if t136 = 3 then ((check_Carry.f kj5 (⟨#[74, 85, 147, 229]⟩ : ByteArray)).bind fun t137 => (some (t137 == 230))) else (some false))) else (some false))) else (some false)) else (some false)) else (some false)) = some r := by rw [if_pos rfl] at H; exact H
     clear H
     have H := H1
     clear H1
     by_cases c25 : t121 = 7
     ·rw [if_pos c25] at H
      have c25b0 : (t121 == 7) = true := beq_iff_eq.mpr c25
      have c25b1 : (t121 != 7) = false := bne_eq_false_iff_eq.mpr c25
      clear c25
      by_cases c26 : t123 = 137
      ·rw [if_pos c26] at H
       have c26b0 : (t123 == 137) = true := beq_iff_eq.mpr c26
       have c26b1 : (t123 != 137) = false := bne_eq_false_iff_eq.mpr c26
       clear c26
       by_cases c27 : t132 = 65535
       ·rw [if_pos c27] at H
        have c27b0 : (t132 == 65535) = true := beq_iff_eq.mpr c27
        have c27b1 : (t132 != 65535) = false := bne_eq_false_iff_eq.mpr c27
        clear c27
        replace H := Option.bind_eq_some_iff.mp H
        obtain ⟨t135, A280, H⟩ := H
        replace H : (if t135 = 1 then ((check_Xor.f kj5 (⟨#[5, 6]⟩ : ByteArray)).bind fun t136 => (if t136 = 3 then ((check_Carry.f kj5 (⟨#[74, 85, 147, 229]⟩ : ByteArray)).bind fun t137 => (some (t137 == 230))) else (some false))) else (some false)) = some r := H
        have A28 := Aside0.mk A280
        clear A280
        by_cases c29 : t135 = 1
        ·rw [if_pos c29] at H
         have c29b0 : (t135 == 1) = true := beq_iff_eq.mpr c29
         have c29b1 : (t135 != 1) = false := bne_eq_false_iff_eq.mpr c29
         clear c29
         replace H := Option.bind_eq_some_iff.mp H
         obtain ⟨t136, A300, H⟩ := H
         replace H : (if t136 = 3 then ((check_Carry.f kj5 (⟨#[74, 85, 147, 229]⟩ : ByteArray)).bind fun t137 => (some (t137 == 230))) else (some false)) = some r := H
         have A30 := Aside0.mk A300
         clear A300
         by_cases c31 : t136 = 3
         ·rw [if_pos c31] at H
          have c31b0 : (t136 == 3) = true := beq_iff_eq.mpr c31
          have c31b1 : (t136 != 3) = false := bne_eq_false_iff_eq.mpr c31
          clear c31
          replace H := Option.bind_eq_some_iff.mp H
          obtain ⟨t137, A320, H⟩ := H
          replace H : (some (t137 == 230)) = some r := H
          have A32 := Aside0.mk A320
          clear A320
          obtain rfl := Option.some.inj H
          have hnb33 := NB120_131.out
          have hnc33 := NB131_120.out
          have hcz34_0 : wc.cell? ⟨gb120, 0, none⟩ = some (.int .i64 t114) := (blk_cell BK120.out 0).trans rfl
          have hcz34_1 : wc.cell? ⟨gb120, 1, none⟩ = some (.int .i64 t115) := (blk_cell BK120.out 1).trans rfl
          have hcz34_2 : wc.cell? ⟨gb120, 2, none⟩ = some (.int .i64 t116) := (blk_cell BK120.out 2).trans rfl
          have hcz34_3 : wc.cell? ⟨gb120, 3, none⟩ = some (.int .i64 t117) := (blk_cell BK120.out 3).trans rfl
          have hcz34_4 : wc.cell? ⟨gb120, 4, none⟩ = some (.bool t118) := (blk_cell BK120.out 4).trans rfl
          have hfz34_0 := blk_frozen BK120.out 0
          have hfz34_1 := blk_frozen BK120.out 1
          have hfz34_2 := blk_frozen BK120.out 2
          have hfz34_3 := blk_frozen BK120.out 3
          have hfz34_4 := blk_frozen BK120.out 4
          go_wp2_with (first | ((with_reducible refine gate_callee (f := 31) rfl ?_); refine goesL_ (some 53) rfl rfl Tryd.func31 (by kernel_rfl) rfl #[.agg #[.int .i64 t114, .int .i64 t115, .int .i64 t116, .int .i64 t117, .bool t118]] rfl (by (try simp only [List.map_toArray, List.map_cons, List.map_nil]); first | done | rfl | (simp only [List.length_drop, List.length_take]; rfl)) ?_; (with_reducible refine (check_Right.calls kj5 t114 t115 t116 t117 t118 true _ A23.out).mono ?_); rintro e w35 ⟨rfl, hb⟩; refine ⟨_, rfl, ?_⟩; have n0_ := Aside0.mk (blkb BK120.out hb); have n1_ := Aside0.mk (blkb BK131.out hb); have n2_ := Aside0.mk (below_step (hbw HB.out) hb); clear BK120; clear BK131; clear HB; have BK120 := n0_; have BK131 := n1_; have HB := n2_; clear n0_ n1_ n2_; (try clear hb); (try clear hb2); (try clear hk); (try clear hi)) | (go_at_call 16; (with_reducible refine (check_Sum.calls kj5 (⟨#[255, 2]⟩ : ByteArray) t135 _ A28.out).mono ?_); rintro e w' ⟨rfl, ⟨nd, rfl⟩⟩) | (go_at_call 18; (with_reducible refine (check_Xor.calls kj5 (⟨#[5, 6]⟩ : ByteArray) t136 _ A30.out).mono ?_); rintro e w' ⟨rfl, ⟨nd, rfl⟩⟩) | (go_at_call 20; (with_reducible refine (check_Carry.calls kj5 (⟨#[74, 85, 147, 229]⟩ : ByteArray) t137 _ A32.out).mono ?_); rintro e w' ⟨rfl, ⟨nd, rfl⟩⟩))
          go_ret
          exact ⟨by first | rfl | (simp [errW_none, errW_some] <;> rfl) | (simp [*, errW_none, errW_some] <;> rfl), by repeat (first | (with_reducible first | exact HB.out | apply below_alloc | apply pw_below_drewN | apply below_drew1 | refine below_set ?_ GE120.out | refine below_set ?_ GE131.out) | exact HB.out)⟩
         ·rw [if_neg c31] at H
          have c31b0 : (t136 == 3) = false := beq_eq_false_iff_ne.mpr c31
          have c31b1 : (t136 != 3) = true := bne_iff_ne.mpr c31
          obtain rfl := Option.some.inj H
          have hnb36 := NB120_131.out
          have hnc36 := NB131_120.out
          have hcz37_0 : wc.cell? ⟨gb120, 0, none⟩ = some (.int .i64 t114) := (blk_cell BK120.out 0).trans rfl
          have hcz37_1 : wc.cell? ⟨gb120, 1, none⟩ = some (.int .i64 t115) := (blk_cell BK120.out 1).trans rfl
          have hcz37_2 : wc.cell? ⟨gb120, 2, none⟩ = some (.int .i64 t116) := (blk_cell BK120.out 2).trans rfl
          have hcz37_3 : wc.cell? ⟨gb120, 3, none⟩ = some (.int .i64 t117) := (blk_cell BK120.out 3).trans rfl
          have hcz37_4 : wc.cell? ⟨gb120, 4, none⟩ = some (.bool t118) := (blk_cell BK120.out 4).trans rfl
          have hfz37_0 := blk_frozen BK120.out 0
          have hfz37_1 := blk_frozen BK120.out 1
          have hfz37_2 := blk_frozen BK120.out 2
          have hfz37_3 := blk_frozen BK120.out 3
          have hfz37_4 := blk_frozen BK120.out 4
          go_wp2_with (first | ((with_reducible refine gate_callee (f := 31) rfl ?_); refine goesL_ (some 53) rfl rfl Tryd.func31 (by kernel_rfl) rfl #[.agg #[.int .i64 t114, .int .i64 t115, .int .i64 t116, .int .i64 t117, .bool t118]] rfl (by (try simp only [List.map_toArray, List.map_cons, List.map_nil]); first | done | rfl | (simp only [List.length_drop, List.length_take]; rfl)) ?_; (with_reducible refine (check_Right.calls kj5 t114 t115 t116 t117 t118 true _ A23.out).mono ?_); rintro e w38 ⟨rfl, hb⟩; refine ⟨_, rfl, ?_⟩; have n0_ := Aside0.mk (blkb BK120.out hb); have n1_ := Aside0.mk (blkb BK131.out hb); have n2_ := Aside0.mk (below_step (hbw HB.out) hb); clear BK120; clear BK131; clear HB; have BK120 := n0_; have BK131 := n1_; have HB := n2_; clear n0_ n1_ n2_; (try clear hb); (try clear hb2); (try clear hk); (try clear hi)) | (go_at_call 16; (with_reducible refine (check_Sum.calls kj5 (⟨#[255, 2]⟩ : ByteArray) t135 _ A28.out).mono ?_); rintro e w' ⟨rfl, ⟨nd, rfl⟩⟩) | (go_at_call 18; (with_reducible refine (check_Xor.calls kj5 (⟨#[5, 6]⟩ : ByteArray) t136 _ A30.out).mono ?_); rintro e w' ⟨rfl, ⟨nd, rfl⟩⟩))
          go_ret
          exact ⟨by first | rfl | (simp [errW_none, errW_some] <;> rfl) | (simp [*, errW_none, errW_some] <;> rfl), by repeat (first | (with_reducible first | exact HB.out | apply below_alloc | apply pw_below_drewN | apply below_drew1 | refine below_set ?_ GE120.out | refine below_set ?_ GE131.out) | exact HB.out)⟩
        ·rw [if_neg c29] at H
         have c29b0 : (t135 == 1) = false := beq_eq_false_iff_ne.mpr c29
         have c29b1 : (t135 != 1) = true := bne_iff_ne.mpr c29
         obtain rfl := Option.some.inj H
         have hnb39 := NB120_131.out
         have hnc39 := NB131_120.out
         have hcz40_0 : wc.cell? ⟨gb120, 0, none⟩ = some (.int .i64 t114) := (blk_cell BK120.out 0).trans rfl
         have hcz40_1 : wc.cell? ⟨gb120, 1, none⟩ = some (.int .i64 t115) := (blk_cell BK120.out 1).trans rfl
         have hcz40_2 : wc.cell? ⟨gb120, 2, none⟩ = some (.int .i64 t116) := (blk_cell BK120.out 2).trans rfl
         have hcz40_3 : wc.cell? ⟨gb120, 3, none⟩ = some (.int .i64 t117) := (blk_cell BK120.out 3).trans rfl
         have hcz40_4 : wc.cell? ⟨gb120, 4, none⟩ = some (.bool t118) := (blk_cell BK120.out 4).trans rfl
         have hfz40_0 := blk_frozen BK120.out 0
         have hfz40_1 := blk_frozen BK120.out 1
         have hfz40_2 := blk_frozen BK120.out 2
         have hfz40_3 := blk_frozen BK120.out 3
         have hfz40_4 := blk_frozen BK120.out 4
         go_wp2_with (first | ((with_reducible refine gate_callee (f := 31) rfl ?_); refine goesL_ (some 53) rfl rfl Tryd.func31 (by kernel_rfl) rfl #[.agg #[.int .i64 t114, .int .i64 t115, .int .i64 t116, .int .i64 t117, .bool t118]] rfl (by (try simp only [List.map_toArray, List.map_cons, List.map_nil]); first | done | rfl | (simp only [List.length_drop, List.length_take]; rfl)) ?_; (with_reducible refine (check_Right.calls kj5 t114 t115 t116 t117 t118 true _ A23.out).mono ?_); rintro e w41 ⟨rfl, hb⟩; refine ⟨_, rfl, ?_⟩; have n0_ := Aside0.mk (blkb BK120.out hb); have n1_ := Aside0.mk (blkb BK131.out hb); have n2_ := Aside0.mk (below_step (hbw HB.out) hb); clear BK120; clear BK131; clear HB; have BK120 := n0_; have BK131 := n1_; have HB := n2_; clear n0_ n1_ n2_; (try clear hb); (try clear hb2); (try clear hk); (try clear hi)) | (go_at_call 16; (with_reducible refine (check_Sum.calls kj5 (⟨#[255, 2]⟩ : ByteArray) t135 _ A28.out).mono ?_); rintro e w' ⟨rfl, ⟨nd, rfl⟩⟩))
         go_ret
         exact ⟨by first | rfl | (simp [errW_none, errW_some] <;> rfl) | (simp [*, errW_none, errW_some] <;> rfl), by repeat (first | (with_reducible first | exact HB.out | apply below_alloc | apply pw_below_drewN | apply below_drew1 | refine below_set ?_ GE120.out | refine below_set ?_ GE131.out) | exact HB.out)⟩
       ·rw [if_neg c27] at H
        have c27b0 : (t132 == 65535) = false := beq_eq_false_iff_ne.mpr c27
        have c27b1 : (t132 != 65535) = true := bne_iff_ne.mpr c27
        obtain rfl := Option.some.inj H
        have hnb42 := NB120_131.out
        have hnc42 := NB131_120.out
        have hcz43_0 : wc.cell? ⟨gb120, 0, none⟩ = some (.int .i64 t114) := (blk_cell BK120.out 0).trans rfl
        have hcz43_1 : wc.cell? ⟨gb120, 1, none⟩ = some (.int .i64 t115) := (blk_cell BK120.out 1).trans rfl
        have hcz43_2 : wc.cell? ⟨gb120, 2, none⟩ = some (.int .i64 t116) := (blk_cell BK120.out 2).trans rfl
        have hcz43_3 : wc.cell? ⟨gb120, 3, none⟩ = some (.int .i64 t117) := (blk_cell BK120.out 3).trans rfl
        have hcz43_4 : wc.cell? ⟨gb120, 4, none⟩ = some (.bool t118) := (blk_cell BK120.out 4).trans rfl
        have hfz43_0 := blk_frozen BK120.out 0
        have hfz43_1 := blk_frozen BK120.out 1
        have hfz43_2 := blk_frozen BK120.out 2
        have hfz43_3 := blk_frozen BK120.out 3
        have hfz43_4 := blk_frozen BK120.out 4
        go_wp2_with (first | ((with_reducible refine gate_callee (f := 31) rfl ?_); refine goesL_ (some 53) rfl rfl Tryd.func31 (by kernel_rfl) rfl #[.agg #[.int .i64 t114, .int .i64 t115, .int .i64 t116, .int .i64 t117, .bool t118]] rfl (by (try simp only [List.map_toArray, List.map_cons, List.map_nil]); first | done | rfl | (simp only [List.length_drop, List.length_take]; rfl)) ?_; (with_reducible refine (check_Right.calls kj5 t114 t115 t116 t117 t118 true _ A23.out).mono ?_); rintro e w44 ⟨rfl, hb⟩; refine ⟨_, rfl, ?_⟩; have n0_ := Aside0.mk (blkb BK120.out hb); have n1_ := Aside0.mk (blkb BK131.out hb); have n2_ := Aside0.mk (below_step (hbw HB.out) hb); clear BK120; clear BK131; clear HB; have BK120 := n0_; have BK131 := n1_; have HB := n2_; clear n0_ n1_ n2_; (try clear hb); (try clear hb2); (try clear hk); (try clear hi)))
        go_ret
        exact ⟨by first | rfl | (simp [errW_none, errW_some] <;> rfl) | (simp [*, errW_none, errW_some] <;> rfl), by repeat (first | (with_reducible first | exact HB.out | apply below_alloc | apply pw_below_drewN | apply below_drew1 | refine below_set ?_ GE120.out | refine below_set ?_ GE131.out) | exact HB.out)⟩
      ·rw [if_neg c26] at H
       have c26b0 : (t123 == 137) = false := beq_eq_false_iff_ne.mpr c26
       have c26b1 : (t123 != 137) = true := bne_iff_ne.mpr c26
       obtain rfl := Option.some.inj H
       have hnb45 := NB120_131.out
       have hnc45 := NB131_120.out
       have hcz46_0 : wc.cell? ⟨gb120, 0, none⟩ = some (.int .i64 t114) := (blk_cell BK120.out 0).trans rfl
       have hcz46_1 : wc.cell? ⟨gb120, 1, none⟩ = some (.int .i64 t115) := (blk_cell BK120.out 1).trans rfl
       have hcz46_2 : wc.cell? ⟨gb120, 2, none⟩ = some (.int .i64 t116) := (blk_cell BK120.out 2).trans rfl
       have hcz46_3 : wc.cell? ⟨gb120, 3, none⟩ = some (.int .i64 t117) := (blk_cell BK120.out 3).trans rfl
       have hcz46_4 : wc.cell? ⟨gb120, 4, none⟩ = some (.bool t118) := (blk_cell BK120.out 4).trans rfl
       have hfz46_0 := blk_frozen BK120.out 0
       have hfz46_1 := blk_frozen BK120.out 1
       have hfz46_2 := blk_frozen BK120.out 2
       have hfz46_3 := blk_frozen BK120.out 3
       have hfz46_4 := blk_frozen BK120.out 4
       go_wp2_with (first | ((with_reducible refine gate_callee (f := 31) rfl ?_); refine goesL_ (some 53) rfl rfl Tryd.func31 (by kernel_rfl) rfl #[.agg #[.int .i64 t114, .int .i64 t115, .int .i64 t116, .int .i64 t117, .bool t118]] rfl (by (try simp only [List.map_toArray, List.map_cons, List.map_nil]); first | done | rfl | (simp only [List.length_drop, List.length_take]; rfl)) ?_; (with_reducible refine (check_Right.calls kj5 t114 t115 t116 t117 t118 true _ A23.out).mono ?_); rintro e w47 ⟨rfl, hb⟩; refine ⟨_, rfl, ?_⟩; have n0_ := Aside0.mk (blkb BK120.out hb); have n1_ := Aside0.mk (blkb BK131.out hb); have n2_ := Aside0.mk (below_step (hbw HB.out) hb); clear BK120; clear BK131; clear HB; have BK120 := n0_; have BK131 := n1_; have HB := n2_; clear n0_ n1_ n2_; (try clear hb); (try clear hb2); (try clear hk); (try clear hi)))
       go_ret
       exact ⟨by first | rfl | (simp [errW_none, errW_some] <;> rfl) | (simp [*, errW_none, errW_some] <;> rfl), by repeat (first | (with_reducible first | exact HB.out | apply below_alloc | apply pw_below_drewN | apply below_drew1 | refine below_set ?_ GE120.out | refine below_set ?_ GE131.out) | exact HB.out)⟩
     ·rw [if_neg c25] at H
      have c25b0 : (t121 == 7) = false := beq_eq_false_iff_ne.mpr c25
      have c25b1 : (t121 != 7) = true := bne_iff_ne.mpr c25
      obtain rfl := Option.some.inj H
      have hnb48 := NB120_131.out
      have hnc48 := NB131_120.out
      have hcz49_0 : wc.cell? ⟨gb120, 0, none⟩ = some (.int .i64 t114) := (blk_cell BK120.out 0).trans rfl
      have hcz49_1 : wc.cell? ⟨gb120, 1, none⟩ = some (.int .i64 t115) := (blk_cell BK120.out 1).trans rfl
      have hcz49_2 : wc.cell? ⟨gb120, 2, none⟩ = some (.int .i64 t116) := (blk_cell BK120.out 2).trans rfl
      have hcz49_3 : wc.cell? ⟨gb120, 3, none⟩ = some (.int .i64 t117) := (blk_cell BK120.out 3).trans rfl
      have hcz49_4 : wc.cell? ⟨gb120, 4, none⟩ = some (.bool t118) := (blk_cell BK120.out 4).trans rfl
      have hfz49_0 := blk_frozen BK120.out 0
      have hfz49_1 := blk_frozen BK120.out 1
      have hfz49_2 := blk_frozen BK120.out 2
      have hfz49_3 := blk_frozen BK120.out 3
      have hfz49_4 := blk_frozen BK120.out 4
      go_wp2_with (first | ((with_reducible refine gate_callee (f := 31) rfl ?_); refine goesL_ (some 53) rfl rfl Tryd.func31 (by kernel_rfl) rfl #[.agg #[.int .i64 t114, .int .i64 t115, .int .i64 t116, .int .i64 t117, .bool t118]] rfl (by (try simp only [List.map_toArray, List.map_cons, List.map_nil]); first | done | rfl | (simp only [List.length_drop, List.length_take]; rfl)) ?_; (with_reducible refine (check_Right.calls kj5 t114 t115 t116 t117 t118 true _ A23.out).mono ?_); rintro e w50 ⟨rfl, hb⟩; refine ⟨_, rfl, ?_⟩; have n0_ := Aside0.mk (blkb BK120.out hb); have n1_ := Aside0.mk (blkb BK131.out hb); have n2_ := Aside0.mk (below_step (hbw HB.out) hb); clear BK120; clear BK131; clear HB; have BK120 := n0_; have BK131 := n1_; have HB := n2_; clear n0_ n1_ n2_; (try clear hb); (try clear hb2); (try clear hk); (try clear hi)))
      go_ret
      exact ⟨by first | rfl | (simp [errW_none, errW_some] <;> rfl) | (simp [*, errW_none, errW_some] <;> rfl), by repeat (first | (with_reducible first | exact HB.out | apply below_alloc | apply pw_below_drewN | apply below_drew1 | refine below_set ?_ GE120.out | refine below_set ?_ GE131.out) | exact HB.out)⟩
    ·replace c24 := Bool.eq_false_iff.mpr c24
     subst c24
     have H1 : (some false) = some r := by rw [if_neg (show ¬ (false = true) by decide)] at H; exact H
     clear H
     have H := H1
     clear H1
     obtain rfl := Option.some.inj H
     have hnb51 := NB120_131.out
     have hnc51 := NB131_120.out
     have hcz52_0 : wc.cell? ⟨gb120, 0, none⟩ = some (.int .i64 t114) := (blk_cell BK120.out 0).trans rfl
     have hcz52_1 : wc.cell? ⟨gb120, 1, none⟩ = some (.int .i64 t115) := (blk_cell BK120.out 1).trans rfl
     have hcz52_2 : wc.cell? ⟨gb120, 2, none⟩ = some (.int .i64 t116) := (blk_cell BK120.out 2).trans rfl
     have hcz52_3 : wc.cell? ⟨gb120, 3, none⟩ = some (.int .i64 t117) := (blk_cell BK120.out 3).trans rfl
     have hcz52_4 : wc.cell? ⟨gb120, 4, none⟩ = some (.bool t118) := (blk_cell BK120.out 4).trans rfl
     have hfz52_0 := blk_frozen BK120.out 0
     have hfz52_1 := blk_frozen BK120.out 1
     have hfz52_2 := blk_frozen BK120.out 2
     have hfz52_3 := blk_frozen BK120.out 3
     have hfz52_4 := blk_frozen BK120.out 4
     go_wp2_with (first | ((with_reducible refine gate_callee (f := 31) rfl ?_); refine goesL_ (some 53) rfl rfl Tryd.func31 (by kernel_rfl) rfl #[.agg #[.int .i64 t114, .int .i64 t115, .int .i64 t116, .int .i64 t117, .bool t118]] rfl (by (try simp only [List.map_toArray, List.map_cons, List.map_nil]); first | done | rfl | (simp only [List.length_drop, List.length_take]; rfl)) ?_; (with_reducible refine (check_Right.calls kj5 t114 t115 t116 t117 t118 false _ A23.out).mono ?_); rintro e w53 ⟨rfl, hb⟩; refine ⟨_, rfl, ?_⟩; have n0_ := Aside0.mk (blkb BK120.out hb); have n1_ := Aside0.mk (blkb BK131.out hb); have n2_ := Aside0.mk (below_step (hbw HB.out) hb); clear BK120; clear BK131; clear HB; have BK120 := n0_; have BK131 := n1_; have HB := n2_; clear n0_ n1_ n2_; (try clear hb); (try clear hb2); (try clear hk); (try clear hi)))
     go_ret
     exact ⟨by first | rfl | (simp [errW_none, errW_some] <;> rfl) | (simp [*, errW_none, errW_some] <;> rfl), by repeat (first | (with_reducible first | exact HB.out | apply below_alloc | apply pw_below_drewN | apply below_drew1 | refine below_set ?_ GE120.out | refine below_set ?_ GE131.out) | exact HB.out)⟩

/-! ### signalbenchlaw04_zeros: function 22 -/
def signalbenchlaw04_zeros.l0 : Nat → Int → ByteArray → Int → Option (ByteArray)
 | 0, _, _, _ => none
 | k + 1, x0, x3, x4 => if x4 < x0 then (if x3.size + 1 ≤ 9223372036854775807 then (signalbenchlaw04_zeros.l0 k x0 (x3 ++ (⟨#[48]⟩ : ByteArray)) (wrap64 (x4 + 1))) else (none)) else (some x3)
def signalbenchlaw04_zeros.f (k : Nat) (a0 : Int) : Option (ByteArray) := signalbenchlaw04_zeros.l0 k a0 (⟨#[]⟩ : ByteArray) 0
theorem signalbenchlaw04_zeros.mono_l : ∀ k, (∀ y0 y1 y2, LeO (signalbenchlaw04_zeros.l0 k y0 y1 y2) (signalbenchlaw04_zeros.l0 (k + 1) y0 y1 y2))
 | 0 => fun _ _ _ r h => by simp [signalbenchlaw04_zeros.l0] at h
 | k + 1 => by
  have ih0 := signalbenchlaw04_zeros.mono_l k
  ·intro y0 y1 y2
   unfold signalbenchlaw04_zeros.l0
   repeat' first
   | (with_reducible exact ih0 _ _ _)
   | (with_reducible exact LeO.refl _)
   | (with_reducible exact LeO.none _)
   | (with_reducible refine LeO.ite ?_ ?_)
   | (with_reducible refine LeO.bind ?_ (fun _ => ?_))
   | exact ih0 _ _ _
   | exact LeO.none _
   | refine LeO.ite ?_ ?_
   | refine LeO.bind ?_ (fun _ => ?_)
theorem signalbenchlaw04_zeros.mono : ∀ a0 k, LeO (signalbenchlaw04_zeros.f k a0) (signalbenchlaw04_zeros.f (k + 1) a0) := by
 intro a0 k
 have ih0 := signalbenchlaw04_zeros.mono_l k
 unfold signalbenchlaw04_zeros.f
 repeat' first
   | (with_reducible exact ih0 _ _ _)
   | (with_reducible exact LeO.refl _)
   | (with_reducible exact LeO.none _)
   | (with_reducible refine LeO.ite ?_ ?_)
   | (with_reducible refine LeO.bind ?_ (fun _ => ?_))
   | exact ih0 _ _ _
   | exact LeO.none _
   | refine LeO.ite ?_ ?_
   | refine LeO.bind ?_ (fun _ => ?_)
set_option maxHeartbeats 8000000 in
set_option maxRecDepth 100000 in
theorem signalbenchlaw04_zeros.calls (k : Nat) (a0 : Int) (r : ByteArray) (w : World) (h : signalbenchlaw04_zeros.f k a0 = some r) :
  Calls Tryd.prog 22 #[.int .i64 a0] w fun e w' => e = .returned (.string r) ∧ Drawn0 w w' := by
 have H : (signalbenchlaw04_zeros.l0 k a0 (⟨#[]⟩ : ByteArray) 0) = some r := h
 clear h
 have H' := Aside0.mk H
 clear H
 go_enter Tryd.func22, Tryd.ntmps22
 go_wp2
 go_loopg [3, 4] k (fun kq v3 v4 w' => ∃ (x3_1 : ByteArray) (x4_1 : Int), v3 = .string x3_1 ∧ v4 = .int .i64 x4_1 ∧ Aside0 (signalbenchlaw04_zeros.l0 kq a0 x3_1 x4_1 = some r) ∧ Aside0 (kq ≤ k) ∧ Drawn0 w w')
 case atStart => exact ⟨((⟨#[]⟩ : ByteArray)), (0), (by first | rfl | (simp; done) | (simp [*]; done)), (by first | rfl | (simp; done) | (simp [*]; done)), H', ⟨Nat.le_refl _⟩, by repeat (first | exact Drawn0.refl _ | apply Drawn0.step)⟩
 case round =>
  clear H'
  obtain ⟨x3_1, x4_1, rfl, rfl, HA, HK1, ⟨m1, rfl⟩⟩ := hrel
  cases gk with
  | zero => exact absurd HA.out (by simp [signalbenchlaw04_zeros.l0])
  | succ k1 =>
   have H := HA.out
   clear HA
   simp only [signalbenchlaw04_zeros.l0] at H
   by_cases c2 : x4_1 < a0
   ·rw [if_pos c2] at H
    have c2b0 : decide (x4_1 < a0) = true := decide_eq_true c2
    clear c2
    by_cases c3 : x3_1.size + 1 ≤ 9223372036854775807
    ·rw [if_pos c3] at H
     have c3b0 := eq_true c3
     have c3b1 : decide (x3_1.size + 1 ≤ 9223372036854775807) = true := decide_eq_true c3
     try have c3b2 : (9223372036854775807 < x3_1.size + 1) = False := eq_false (Nat.not_lt.2 c3)
     have H' := Aside0.mk H
     clear H
     go_wp2
     go_roundg k1
     case measure => have := HK1.out; omega
     case rel => exact ⟨(x3_1 ++ (⟨#[48]⟩ : ByteArray)), (wrap64 (x4_1 + 1)), (by first | rfl | (simp; done) | (simp [*]; done)), (by first | rfl | (simp; done) | (simp [*]; done)), H', ⟨by have := HK1.out; omega⟩, by repeat (first | exact Drawn0.refl _ | apply Drawn0.step)⟩
    ·rw [if_neg c3] at H
     exact absurd H (by simp)
   ·rw [if_neg c2] at H
    have c2b0 : decide (x4_1 < a0) = false := decide_eq_false c2
    clear c2
    obtain rfl := Option.some.inj H
    go_wp2
    go_ret
    exact ⟨by first | rfl | (simp; done) | (simp [*]; done), by repeat (first | exact Drawn0.refl _ | apply Drawn0.step)⟩

end Go.Proofs.YteeejopgaegaoaaDoor.PCheckLimits
