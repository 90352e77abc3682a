-- Written by a program of this session (wip/tools/pr.py), which calls the kit's print with changes of its own.
import Derived.Test.YtbggkaofkohecaaPSyncDecodesx0
import Derived.Test.YtbggkaofkohecaaPSyncDecodesx10
import Derived.Test.YtbggkaofkohecaaPSyncDecodesx11
namespace Go.Proofs.Ytbggkaofkohecaa.PSyncDecodes
open Go.RowKit Go.Proofs.YtbggkaofkohecaaW.PrintWords Go.Proofs.YtbggkaofkohecaaW.PrintLast Go.Proofs.YtbggkaofkohecaaW.PrintMore
attribute [local go_sem] max2_int min2_int max_two min_two max_three min_three max_four min_four   -- for this text's walks alone
set_option linter.unusedVariables false
set_option linter.unusedSimpArgs false

/-! ### signalbenchref03_Int: function 49 -/
mutual
def signalbenchref03_Int.j0 : Nat → ByteArray → Bool → Option (Int × Int)
 | 0, _, _ => none
 | k + 1, x0, x1 => if (x0.size : Int) > 62 then (some (0, 6)) else (signalbenchref03_Int.j1 k x0 x1)
def signalbenchref03_Int.j1 : Nat → ByteArray → Bool → Option (Int × Int)
 | 0, _, _ => none
 | k + 1, x0, x1 => if x1 = true then (signalbenchref03_Int.j2 k x0) else ((signalbenchref03_turn.f k x0).bind fun t327 => (signalbenchref03_Int.j2 k t327))
def signalbenchref03_Int.j2 : Nat → ByteArray → Option (Int × Int)
 | 0, _ => none
 | k + 1, x0 => signalbenchref03_Int.l0 k x0 0 0
def signalbenchref03_Int.l0 : Nat → ByteArray → Int → Int → Option (Int × Int)
 | 0, _, _, _ => none
 | k + 1, x0, x6, x7 => if x7 < (x0.size : Int) then (if 0 ≤ x7 then (signalbenchref03_Int.l0 k x0 (wrap64 ((wrap64 (2 * x6)) + (((bt x0 x7) - 48) % 256))) (wrap64 (x7 + 1))) else (none)) else (some (x6, 0))
end
def signalbenchref03_Int.f (k : Nat) (a0 : ByteArray) (a1 : Bool) : Option (Int × Int) := (signalbenchref03_Valid.f k a0).bind fun t326 => (if t326 = true then (signalbenchref03_Int.j0 k a0 a1) else (some (0, 4)))
theorem signalbenchref03_Int.mono_l : ∀ k, (∀ y0 y1, LeO (signalbenchref03_Int.j0 k y0 y1) (signalbenchref03_Int.j0 (k + 1) y0 y1)) ∧ (∀ y0 y1, LeO (signalbenchref03_Int.j1 k y0 y1) (signalbenchref03_Int.j1 (k + 1) y0 y1)) ∧ (∀ y0, LeO (signalbenchref03_Int.j2 k y0) (signalbenchref03_Int.j2 (k + 1) y0)) ∧ (∀ y0 y1 y2, LeO (signalbenchref03_Int.l0 k y0 y1 y2) (signalbenchref03_Int.l0 (k + 1) y0 y1 y2))
 | 0 => ⟨fun _ _ r h => by simp [signalbenchref03_Int.j0] at h, fun _ _ r h => by simp [signalbenchref03_Int.j1] at h, fun _ r h => by simp [signalbenchref03_Int.j2] at h, fun _ _ _ r h => by simp [signalbenchref03_Int.l0] at h⟩
 | k + 1 => by
  obtain ⟨ih0, ih1, ih2, ih3⟩ := signalbenchref03_Int.mono_l k
  refine ⟨?_, ?_, ?_, ?_⟩
  ·intro y0 y1
   unfold signalbenchref03_Int.j0
   repeat' first
   | (with_reducible exact ih0 _ _)
   | (with_reducible exact ih1 _ _)
   | (with_reducible exact ih2 _)
   | (with_reducible exact ih3 _ _ _)
   | (with_reducible exact signalbenchref03_Valid.mono _ _)
   | (with_reducible exact signalbenchref03_turn.mono _ _)
   | (with_reducible exact LeO.refl _)
   | (with_reducible exact LeO.none _)
   | (with_reducible refine LeO.ite ?_ ?_)
   | (with_reducible refine LeO.bind ?_ (fun _ => ?_))
   | exact ih0 _ _
   | exact ih1 _ _
   | exact ih2 _
   | exact ih3 _ _ _
   | exact signalbenchref03_Valid.mono _ _
   | exact signalbenchref03_turn.mono _ _
   | exact LeO.none _
   | refine LeO.ite ?_ ?_
   | refine LeO.bind ?_ (fun _ => ?_)
  ·intro y0 y1
   unfold signalbenchref03_Int.j1
   repeat' first
   | (with_reducible exact ih0 _ _)
   | (with_reducible exact ih1 _ _)
   | (with_reducible exact ih2 _)
   | (with_reducible exact ih3 _ _ _)
   | (with_reducible exact signalbenchref03_Valid.mono _ _)
   | (with_reducible exact signalbenchref03_turn.mono _ _)
   | (with_reducible exact LeO.refl _)
   | (with_reducible exact LeO.none _)
   | (with_reducible refine LeO.ite ?_ ?_)
   | (with_reducible refine LeO.bind ?_ (fun _ => ?_))
   | exact ih0 _ _
   | exact ih1 _ _
   | exact ih2 _
   | exact ih3 _ _ _
   | exact signalbenchref03_Valid.mono _ _
   | exact signalbenchref03_turn.mono _ _
   | exact LeO.none _
   | refine LeO.ite ?_ ?_
   | refine LeO.bind ?_ (fun _ => ?_)
  ·intro y0
   unfold signalbenchref03_Int.j2
   repeat' first
   | (with_reducible exact ih0 _ _)
   | (with_reducible exact ih1 _ _)
   | (with_reducible exact ih2 _)
   | (with_reducible exact ih3 _ _ _)
   | (with_reducible exact signalbenchref03_Valid.mono _ _)
   | (with_reducible exact signalbenchref03_turn.mono _ _)
   | (with_reducible exact LeO.refl _)
   | (with_reducible exact LeO.none _)
   | (with_reducible refine LeO.ite ?_ ?_)
   | (with_reducible refine LeO.bind ?_ (fun _ => ?_))
   | exact ih0 _ _
   | exact ih1 _ _
   | exact ih2 _
   | exact ih3 _ _ _
   | exact signalbenchref03_Valid.mono _ _
   | exact signalbenchref03_turn.mono _ _
   | exact LeO.none _
   | refine LeO.ite ?_ ?_
   | refine LeO.bind ?_ (fun _ => ?_)
  ·intro y0 y1 y2
   unfold signalbenchref03_Int.l0
   repeat' first
   | (with_reducible exact ih0 _ _)
   | (with_reducible exact ih1 _ _)
   | (with_reducible exact ih2 _)
   | (with_reducible exact ih3 _ _ _)
   | (with_reducible exact signalbenchref03_Valid.mono _ _)
   | (with_reducible exact signalbenchref03_turn.mono _ _)
   | (with_reducible exact LeO.refl _)
   | (with_reducible exact LeO.none _)
   | (with_reducible refine LeO.ite ?_ ?_)
   | (with_reducible refine LeO.bind ?_ (fun _ => ?_))
   | exact ih0 _ _
   | exact ih1 _ _
   | exact ih2 _
   | exact ih3 _ _ _
   | exact signalbenchref03_Valid.mono _ _
   | exact signalbenchref03_turn.mono _ _
   | exact LeO.none _
   | refine LeO.ite ?_ ?_
   | refine LeO.bind ?_ (fun _ => ?_)
theorem signalbenchref03_Int.mono : ∀ a0 a1 k, LeO (signalbenchref03_Int.f k a0 a1) (signalbenchref03_Int.f (k + 1) a0 a1) := by
 intro a0 a1 k
 obtain ⟨ih0, ih1, ih2, ih3⟩ := signalbenchref03_Int.mono_l k
 unfold signalbenchref03_Int.f
 repeat' first
   | (with_reducible exact ih0 _ _)
   | (with_reducible exact ih1 _ _)
   | (with_reducible exact ih2 _)
   | (with_reducible exact ih3 _ _ _)
   | (with_reducible exact signalbenchref03_Valid.mono _ _)
   | (with_reducible exact signalbenchref03_turn.mono _ _)
   | (with_reducible exact LeO.refl _)
   | (with_reducible exact LeO.none _)
   | (with_reducible refine LeO.ite ?_ ?_)
   | (with_reducible refine LeO.bind ?_ (fun _ => ?_))
   | exact ih0 _ _
   | exact ih1 _ _
   | exact ih2 _
   | exact ih3 _ _ _
   | exact signalbenchref03_Valid.mono _ _
   | exact signalbenchref03_turn.mono _ _
   | exact LeO.none _
   | refine LeO.ite ?_ ?_
   | refine LeO.bind ?_ (fun _ => ?_)
set_option maxHeartbeats 8000000 in
set_option maxRecDepth 100000 in
theorem signalbenchref03_Int.calls (k : Nat) (a0 : ByteArray) (a1 : Bool) (r1 : Int) (r2 : Int) (w : World) (h : signalbenchref03_Int.f k a0 a1 = some (r1, r2)) :
  Calls Try.prog 49 #[.string a0, .bool a1] w fun e w' => e = .returned (.tuple #[.int .i64 r1, .int .i64 r2]) ∧ Below w.heap.size w w' := by
 have HB := sA (Below.refl w.heap.size w); have H : ((signalbenchref03_Valid.f k a0).bind fun t326 => (if t326 = true then (signalbenchref03_Int.j0 k a0 a1) else (some (0, 4)))) = some (r1, r2) := h; clear h; replace H := Option.bind_eq_some_iff.mp H; obtain ⟨t326, A30, H⟩ := H; replace H : (if t326 = true then (signalbenchref03_Int.j0 k a0 a1) else (some (0, 4))) = some (r1, r2) := H; have A3 := sA A30; clear A30; have HC4 := sA H; clear H
 go_enter Try.func49, Try.ntmps49
 go_upto_if 10 with (first | ((with_reducible refine gate_callee (f := 42) rfl ?_); refine goesK (some 9) Try.func42 #[.string a0] ?_; (with_reducible refine (signalbenchref03_Valid.calls k a0 t326 _ A3.out).mono ?_); rintro e w' ⟨rfl, ⟨nd, rfl⟩⟩; refine ⟨_, rfl, ?_⟩))
 (try simp only [Act.put, List.setIfInBounds_toArray, List.set_cons_zero, List.set_cons_succ])
 go_cut [] (fun wc => ∃ (kq : Nat), Aside0 (signalbenchref03_Int.j0 kq a0 a1 = some (r1, r2)) ∧ Aside0 (kq ≤ k) ∧ Aside0 (Below w.heap.size w wc))
 case first =>
  have H := HC4.out; clear HC4
  by_cases c5 : t326 = true
  ·subst c5
   have H1 : (signalbenchref03_Int.j0 k a0 a1) = some (r1, r2) := by rw [if_pos rfl] at H; exact H
   clear H; have H := H1; clear H1; have H' := sA H; clear H
   go_wp2
   go_meet
   case rel => exact ⟨_, H', ⟨by first | omega | exact Nat.le_refl _⟩, ⟨hbw HB.out⟩⟩
  ·replace c5 := Bool.eq_false_iff.mpr c5
   subst c5
   have H1 : (some (0, 4)) = some (r1, r2) := by rw [if_neg (show ¬ (false = true) by decide)] at H; exact H
   clear H; have H := H1; clear H1
   simp only [Option.some.injEq, Prod.mk.injEq] at H
   obtain ⟨rfl, rfl⟩ := H
   go_wp2
   go_ret2
   exact ⟨eW_, hbw HB.out⟩
 case rest =>
  clear HC4
  obtain ⟨kq, HA, HJ3, HB⟩ := hcut
  cases kq with
  | zero => exact absurd HA.out (by simp [signalbenchref03_Int.j0])
  | succ kj3 =>
   have H := HA.out; clear HA
   simp only [signalbenchref03_Int.j0] at H
   have HC6 := sA H; clear H
   go_upto_if 13 with (fail)
   go_cut [] (fun wc => ∃ (kq : Nat), Aside0 (signalbenchref03_Int.j1 kq a0 a1 = some (r1, r2)) ∧ Aside0 (kq ≤ kj3) ∧ Aside0 (Below w.heap.size w wc))
   case first =>
    have H := HC6.out; clear HC6
    by_cases c7 : (a0.size : Int) > 62
    ·rw [if_pos c7] at H
     have c7b0 : decide (62 < (a0.size : Int)) = true := decide_eq_true c7; have c7b1 : decide (62 < a0.size) = true := decide_eq_true (by omega); clear c7
     (first | rw [c7b0] | (simp only [i64_w, i32_w]; rw [c7b0]) | skip)
     simp only [Option.some.injEq, Prod.mk.injEq] at H
     obtain ⟨rfl, rfl⟩ := H
     go_wp2
     go_ret2
     exact ⟨eW_, hbw HB.out⟩
    ·rw [if_neg c7] at H
     have c7b0 : decide (62 < (a0.size : Int)) = false := decide_eq_false c7; have c7b1 : decide (62 < a0.size) = false := decide_eq_false (by omega); clear c7
     (first | rw [c7b0] | (simp only [i64_w, i32_w]; rw [c7b0]) | skip)
     have H' := sA H; clear H
     go_wp2
     go_meet
     case rel => exact ⟨_, H', ⟨by have := HJ3.out; first | omega | exact Nat.le_refl _⟩, ⟨hbw HB.out⟩⟩
   case rest =>
    clear HC6
    obtain ⟨kq, HA, HJ5, HB⟩ := hcut
    cases kq with
    | zero => exact absurd HA.out (by simp [signalbenchref03_Int.j1])
    | succ kj5 =>
     have H := HA.out; clear HA
     simp only [signalbenchref03_Int.j1] at H
     have HC8 := sA H; clear H
     go_upto_if 15 with (fail)
     go_cut [0] (fun v0 wc => ∃ (kq : Nat) (x0_7 : ByteArray), v0 = .string x0_7 ∧ Aside0 (signalbenchref03_Int.j2 kq x0_7 = some (r1, r2)) ∧ Aside0 (kq ≤ kj5) ∧ Aside0 (Below w.heap.size w wc))
     case first =>
      have H := HC8.out; clear HC8
      by_cases c9 : a1 = true
      ·subst c9
       have H1 : (signalbenchref03_Int.j2 kj5 a0) = some (r1, r2) := by rw [if_pos rfl] at H; exact H
       clear H; have H := H1; clear H1; have H' := sA H; clear H
       go_wp2
       go_meet
       case rel => exact ⟨_, (a0), (by first | rfl | (simp; done) | (simp [*]; done)), H', ⟨by have := HJ3.out; have := HJ5.out; first | omega | exact Nat.le_refl _⟩, ⟨hbw HB.out⟩⟩
      ·replace c9 := Bool.eq_false_iff.mpr c9
       subst c9
       have H1 : ((signalbenchref03_turn.f kj5 a0).bind fun t327 => (signalbenchref03_Int.j2 kj5 t327)) = some (r1, r2) := by rw [if_neg (show ¬ (false = true) by decide)] at H; exact H
       clear H; have H := H1; clear H1; replace H := Option.bind_eq_some_iff.mp H; obtain ⟨t327, A100, H⟩ := H; replace H : (signalbenchref03_Int.j2 kj5 t327) = some (r1, r2) := H; have A10 := sA A100; clear A100; have H' := sA H; clear H
       go_wp2_with (first | ((with_reducible refine gate_callee (f := 52) rfl ?_); refine goesK (some 17) Try.func52 #[.string a0] ?_; (with_reducible refine (signalbenchref03_turn.calls kj5 a0 t327 _ A10.out).mono ?_); rintro e w11 ⟨rfl, hb⟩; refine ⟨_, rfl, ?_⟩; replace HB := bst HB hb; (try clear hb)))
       go_meet
       case rel => exact ⟨_, (t327), (by first | rfl | (simp; done) | (simp [*]; done)), H', ⟨by have := HJ3.out; have := HJ5.out; first | omega | exact Nat.le_refl _⟩, ⟨hbw HB.out⟩⟩
     case rest =>
      clear HC8
      obtain ⟨kq, x0_7, rfl, HA, HJ7, HB⟩ := hcut
      cases kq with
      | zero => exact absurd HA.out (by simp [signalbenchref03_Int.j2])
      | succ kj7 =>
       have H := HA.out; clear HA
       simp only [signalbenchref03_Int.j2] at H
       have H' := sA H; clear H
       go_wp2
       go_loopg [6, 7] kj7 (fun kq v6 v7 w' => ∃ (x6_4 : Int) (x7_4 : Int), v6 = .int .i64 x6_4 ∧ v7 = .int .i64 x7_4 ∧ Aside0 (signalbenchref03_Int.l0 kq x0_7 x6_4 x7_4 = some (r1, r2)) ∧ Aside0 (kq ≤ kj7) ∧ Aside0 (Below w.heap.size w w'))
       case atStart => exact ⟨(0), (0), (by first | rfl | (simp; done) | (simp [*]; done)), (by first | rfl | (simp; done) | (simp [*]; done)), H', ⟨Nat.le_refl _⟩, ⟨hbw HB.out⟩⟩
       case round =>
        clear H'
        obtain ⟨x6_4, x7_4, rfl, rfl, HA, HK4, HB⟩ := hrel
        cases gk with
        | zero => exact absurd HA.out (by simp [signalbenchref03_Int.l0])
        | succ k4 =>
         have H := HA.out; clear HA
         simp only [signalbenchref03_Int.l0] at H
         by_cases c12 : x7_4 < (x0_7.size : Int)
         ·rw [if_pos c12] at H
          have c12b0 : decide (x7_4 < (x0_7.size : Int)) = true := decide_eq_true c12; clear c12
          by_cases c13 : 0 ≤ x7_4
          ·rw [if_pos c13] at H
           have c13b0 : decide (0 ≤ x7_4) = true := decide_eq_true c13; clear c13; have H' := sA H; clear H; have p14 : 0 ≤ (x7_4 : Int) := of_decide_eq_true (by first | (with_reducible assumption) | assumption); have q14 : x7_4 < (x0_7.size : Int) := of_decide_eq_true (by first | (with_reducible assumption) | assumption); have hx14 := bt_at x0_7 x7_4; replace p14 := eq_true p14; replace q14 := eq_true q14
           go_wp2
           go_roundg k4
           case measure => have := HJ3.out; have := HJ5.out; have := HJ7.out; have := HK4.out; omega
           case rel => exact ⟨(wrap64 ((wrap64 (2 * x6_4)) + (((bt x0_7 x7_4) - 48) % 256))), (wrap64 (x7_4 + 1)), (by first | rfl | (simp; done) | (simp [*]; done)), (by first | rfl | (simp; done) | (simp [*]; done)), H', ⟨by have := HJ3.out; have := HJ5.out; have := HJ7.out; have := HK4.out; omega⟩, ⟨hbw HB.out⟩⟩
          ·rw [if_neg c13] at H
           exact absurd H (by simp)
         ·rw [if_neg c12] at H
          have c12b0 : decide (x7_4 < (x0_7.size : Int)) = false := decide_eq_false c12; clear c12
          simp only [Option.some.injEq, Prod.mk.injEq] at H
          obtain ⟨rfl, rfl⟩ := H
          go_wp2
          go_ret2
          exact ⟨eW_, hbw HB.out⟩

/-! ### signalbenchref03_Bytes: function 38 -/
mutual
def signalbenchref03_Bytes.j0 : Nat → ByteArray → Bool → Option (ByteArray × Int)
 | 0, _, _ => none
 | k + 1, x0, x1 => if ((x0.size : Int) % 8) = 0 then (signalbenchref03_Bytes.l0 k x0 x1 (([] : List Int)) 0) else (some ((⟨#[]⟩ : ByteArray), 1))
def signalbenchref03_Bytes.l0 : Nat → ByteArray → Bool → List Int → Int → Option (ByteArray × Int)
 | 0, _, _, _, _ => none
 | k + 1, x0, x1, x6, x7 => if x7 < (x0.size : Int) then (if 0 ≤ x7 then (if x7 ≤ (wrap64 (x7 + 8)) then (if (wrap64 (x7 + 8)) ≤ (x0.size : Int) then ((signalbenchref03_Int.f k (x0.extract (x7 : Int).toNat ((wrap64 (x7 + 8)) : Int).toNat) x1).bind fun bt332 => (if x6.length < 140737488355328 then (signalbenchref03_Bytes.l0 k x0 x1 (x6 ++ [(bt332.1) % 256]) (wrap64 (x7 + 8))) else (none))) else (none)) else (none)) else (none)) else (some (strOfNums x6, 0))
end
def signalbenchref03_Bytes.f (k : Nat) (a0 : ByteArray) (a1 : Bool) : Option (ByteArray × Int) := (signalbenchref03_Valid.f k a0).bind fun t328 => (if t328 = true then (signalbenchref03_Bytes.j0 k a0 a1) else (some ((⟨#[]⟩ : ByteArray), 4)))
theorem signalbenchref03_Bytes.mono_l : ∀ k, (∀ y0 y1, LeO (signalbenchref03_Bytes.j0 k y0 y1) (signalbenchref03_Bytes.j0 (k + 1) y0 y1)) ∧ (∀ y0 y1 y2 y3, LeO (signalbenchref03_Bytes.l0 k y0 y1 y2 y3) (signalbenchref03_Bytes.l0 (k + 1) y0 y1 y2 y3))
 | 0 => ⟨fun _ _ r h => by simp [signalbenchref03_Bytes.j0] at h, fun _ _ _ _ r h => by simp [signalbenchref03_Bytes.l0] at h⟩
 | k + 1 => by
  obtain ⟨ih0, ih1⟩ := signalbenchref03_Bytes.mono_l k; refine ⟨?_, ?_⟩
  ·intro y0 y1
   unfold signalbenchref03_Bytes.j0
   repeat' first
   | (with_reducible exact ih0 _ _)
   | (with_reducible exact ih1 _ _ _ _)
   | (with_reducible exact signalbenchref03_Int.mono _ _ _)
   | (with_reducible exact signalbenchref03_Valid.mono _ _)
   | (with_reducible exact LeO.refl _)
   | (with_reducible exact LeO.none _)
   | (with_reducible refine LeO.ite ?_ ?_)
   | (with_reducible refine LeO.bind ?_ (fun _ => ?_))
   | exact ih0 _ _
   | exact ih1 _ _ _ _
   | exact signalbenchref03_Int.mono _ _ _
   | exact signalbenchref03_Valid.mono _ _
   | exact LeO.none _
   | refine LeO.ite ?_ ?_
   | refine LeO.bind ?_ (fun _ => ?_)
  ·intro y0 y1 y2 y3
   unfold signalbenchref03_Bytes.l0
   repeat' first
   | (with_reducible exact ih0 _ _)
   | (with_reducible exact ih1 _ _ _ _)
   | (with_reducible exact signalbenchref03_Int.mono _ _ _)
   | (with_reducible exact signalbenchref03_Valid.mono _ _)
   | (with_reducible exact LeO.refl _)
   | (with_reducible exact LeO.none _)
   | (with_reducible refine LeO.ite ?_ ?_)
   | (with_reducible refine LeO.bind ?_ (fun _ => ?_))
   | exact ih0 _ _
   | exact ih1 _ _ _ _
   | exact signalbenchref03_Int.mono _ _ _
   | exact signalbenchref03_Valid.mono _ _
   | exact LeO.none _
   | refine LeO.ite ?_ ?_
   | refine LeO.bind ?_ (fun _ => ?_)
theorem signalbenchref03_Bytes.mono : ∀ a0 a1 k, LeO (signalbenchref03_Bytes.f k a0 a1) (signalbenchref03_Bytes.f (k + 1) a0 a1) := by
 intro a0 a1 k; obtain ⟨ih0, ih1⟩ := signalbenchref03_Bytes.mono_l k
 unfold signalbenchref03_Bytes.f
 repeat' first
   | (with_reducible exact ih0 _ _)
   | (with_reducible exact ih1 _ _ _ _)
   | (with_reducible exact signalbenchref03_Int.mono _ _ _)
   | (with_reducible exact signalbenchref03_Valid.mono _ _)
   | (with_reducible exact LeO.refl _)
   | (with_reducible exact LeO.none _)
   | (with_reducible refine LeO.ite ?_ ?_)
   | (with_reducible refine LeO.bind ?_ (fun _ => ?_))
   | exact ih0 _ _
   | exact ih1 _ _ _ _
   | exact signalbenchref03_Int.mono _ _ _
   | exact signalbenchref03_Valid.mono _ _
   | exact LeO.none _
   | refine LeO.ite ?_ ?_
   | refine LeO.bind ?_ (fun _ => ?_)
set_option maxHeartbeats 8000000 in
set_option maxRecDepth 100000 in
theorem signalbenchref03_Bytes.calls (k : Nat) (a0 : ByteArray) (a1 : Bool) (r1 : ByteArray) (r2 : Int) (w : World) (h : signalbenchref03_Bytes.f k a0 a1 = some (r1, r2)) :
  Calls Try.prog 38 #[.string a0, .bool a1] w fun e w' => e = .returned (.tuple #[.string r1, .int .i64 r2]) ∧ Below w.heap.size w w' := by
 have HB := sA (Below.refl w.heap.size w); have H : ((signalbenchref03_Valid.f k a0).bind fun t328 => (if t328 = true then (signalbenchref03_Bytes.j0 k a0 a1) else (some ((⟨#[]⟩ : ByteArray), 4)))) = some (r1, r2) := h; clear h; replace H := Option.bind_eq_some_iff.mp H; obtain ⟨t328, A30, H⟩ := H; replace H : (if t328 = true then (signalbenchref03_Bytes.j0 k a0 a1) else (some ((⟨#[]⟩ : ByteArray), 4))) = some (r1, r2) := H; have A3 := sA A30; clear A30; have HC4 := sA H; clear H
 go_enter Try.func38, Try.ntmps38
 go_upto_if 12 with (first | ((with_reducible refine gate_callee (f := 42) rfl ?_); refine goesK (some 11) Try.func42 #[.string a0] ?_; (with_reducible refine (signalbenchref03_Valid.calls k a0 t328 _ A3.out).mono ?_); rintro e w' ⟨rfl, ⟨nd, rfl⟩⟩; refine ⟨_, rfl, ?_⟩))
 (try simp only [Act.put, List.setIfInBounds_toArray, List.set_cons_zero, List.set_cons_succ])
 go_cut [] (fun wc => ∃ (kq : Nat), Aside0 (signalbenchref03_Bytes.j0 kq a0 a1 = some (r1, r2)) ∧ Aside0 (kq ≤ k) ∧ Aside0 (Below w.heap.size w wc))
 case first =>
  have H := HC4.out; clear HC4
  by_cases c5 : t328 = true
  ·subst c5
   have H1 : (signalbenchref03_Bytes.j0 k a0 a1) = some (r1, r2) := by rw [if_pos rfl] at H; exact H
   clear H; have H := H1; clear H1; have H' := sA H; clear H
   go_wp2
   go_meet
   case rel => exact ⟨_, H', ⟨by first | omega | exact Nat.le_refl _⟩, ⟨hbw HB.out⟩⟩
  ·replace c5 := Bool.eq_false_iff.mpr c5
   subst c5
   have H1 : (some ((⟨#[]⟩ : ByteArray), 4)) = some (r1, r2) := by rw [if_neg (show ¬ (false = true) by decide)] at H; exact H
   clear H; have H := H1; clear H1
   simp only [Option.some.injEq, Prod.mk.injEq] at H
   obtain ⟨rfl, rfl⟩ := H
   go_wp2
   go_ret2
   exact ⟨eW_, hbw HB.out⟩
 case rest =>
  clear HC4
  obtain ⟨kq, HA, HJ3, HB⟩ := hcut
  cases kq with
  | zero => exact absurd HA.out (by simp [signalbenchref03_Bytes.j0])
  | succ kj3 =>
   have H := HA.out; clear HA
   simp only [signalbenchref03_Bytes.j0] at H
   by_cases c6 : ((a0.size : Int) % 8) = 0
   ·rw [if_pos c6] at H
    have c6b0 : (((a0.size : Int) % 8) == 0) = true := beq_iff_eq.mpr c6; have c6b1 : (((a0.size : Int) % 8) != 0) = false := bne_eq_false_iff_eq.mpr c6; clear c6; obtain ⟨y329, hy329⟩ : ∃ y_ : List Int, y_ = (([] : List Int)) := ⟨_, rfl⟩
    replace H : (signalbenchref03_Bytes.l0 kj3 a0 a1 y329 0) = some (r1, r2) := by first | (rw [hy329]; with_reducible exact H) | (have H2_ := (Option.bind_some _ _).symm.trans H; rw [hy329]; with_reducible exact H2_) | (have H2_ := (Option.bind_some _ _).symm.trans H; with_reducible exact H2_) | with_reducible exact H | (rw [hy329]; exact H) | exact H
    have Ny329 := sA hy329; clear hy329; have H' := sA H; clear H
    go_wp2_with (first | ((with_reducible refine gate_dst (N := 17) rfl ?_); refine Kd.R_lit (Kd.int .u8) _ 5 ?hg (N := 17) ?hd (xs := ([] : List Int)) (inner := []) (ok := fun _ => True) (okp := fun _ => True) ?hr ?hp (fun _ hk => hk) trivial (Below.refl _ _) (Nat.le_refl _) (by simp) ?_; (case hd => rfl); (case hg => rfl); (case hr => first | (go_simp; done) | (go_simp; rfl)); (case hp => exact (Reps.none _ _)); intro v330 w7 ho8 hb hg_ hnew_; clear hg_ hnew_; (first | rw [← Ny329.out] at ho8 | (simp only [Int.reduceToNat] at ho8; rw [← Ny329.out] at ho8)); have HO331 := sA (Kd.R_lower ho8 (below_size (hbw HB.out))); replace HB := bst HB hb; clear hb ho8))
    go_loopg [6, 7] kj3 (fun kq v6 v7 w' => ∃ (x6_2 : List Int) (x7_2 : Int), v7 = .int .i64 x7_2 ∧ Aside0 (signalbenchref03_Bytes.l0 kq a0 a1 x6_2 x7_2 = some (r1, r2)) ∧ Aside0 (kq ≤ kj3) ∧ Aside0 (Kd.R (Kd.int .u8) 5 w' w.heap.size (fun _ => True) v6 x6_2) ∧ Aside0 (Below w.heap.size w w'))
    case atStart => exact ⟨(y329), (0), (by first | rfl | (simp; done) | (simp [*]; done)), H', ⟨Nat.le_refl _⟩, ⟨by (with_reducible repeat (first | apply Kd.R_alloc | apply Kd.R_drewN | apply Kd.R_drew)); exact HO331.out⟩, ⟨hbw HB.out⟩⟩
    case round =>
     clear H'
     try clear c6
     try clear c6b0
     try clear c6b1
     obtain ⟨x6_2, x7_2, rfl, HA, HK2, HO_6, HB⟩ := hrel
     cases gk with
     | zero => exact absurd HA.out (by simp [signalbenchref03_Bytes.l0])
     | succ k2 =>
      have H := HA.out; clear HA
      simp only [signalbenchref03_Bytes.l0] at H
      by_cases c9 : x7_2 < (a0.size : Int)
      ·rw [if_pos c9] at H
       have c9b0 : decide (x7_2 < (a0.size : Int)) = true := decide_eq_true c9; clear c9
       by_cases c10 : 0 ≤ x7_2
       ·rw [if_pos c10] at H
        have c10b0 := eq_true c10; have c10b1 : decide (0 ≤ x7_2) = true := decide_eq_true c10; clear c10
        by_cases c11 : x7_2 ≤ (wrap64 (x7_2 + 8))
        ·rw [if_pos c11] at H
         have c11b0 := eq_true c11; have c11b1 : decide (x7_2 ≤ (wrap64 (x7_2 + 8))) = true := decide_eq_true c11
         by_cases c12 : (wrap64 (x7_2 + 8)) ≤ (a0.size : Int)
         ·rw [if_pos c12] at H
          have c12b0 := eq_true c12; have c12b1 : decide ((wrap64 (x7_2 + 8)) ≤ (a0.size : Int)) = true := decide_eq_true c12; replace H := Option.bind_eq_some_iff.mp H; obtain ⟨⟨t332, t333⟩, A130, H⟩ := H; replace H : (if x6_2.length < 140737488355328 then (signalbenchref03_Bytes.l0 k2 a0 a1 (x6_2 ++ [(t332) % 256]) (wrap64 (x7_2 + 8))) else (none)) = some (r1, r2) := H; have A13 := sA A130; clear A130
          by_cases c14 : x6_2.length < 140737488355328
          ·rw [if_pos c14] at H
           have LMc14 := sA c14; clear c14; obtain ⟨y334, hy334⟩ : ∃ y_ : List Int, y_ = (x6_2 ++ [(t332) % 256]) := ⟨_, rfl⟩
           replace H : (signalbenchref03_Bytes.l0 k2 a0 a1 y334 (wrap64 (x7_2 + 8))) = some (r1, r2) := by first | (rw [hy334]; with_reducible exact H) | (have H2_ := (Option.bind_some _ _).symm.trans H; rw [hy334]; with_reducible exact H2_) | (have H2_ := (Option.bind_some _ _).symm.trans H; with_reducible exact H2_) | with_reducible exact H | (rw [hy334]; exact H) | exact H
           have Ny334 := sA hy334; clear hy334; have H' := sA H; clear H
           go_wp2_with (first | ((with_reducible refine gate_callee (f := 49) rfl ?_); refine goesK (some 31) Try.func49 #[.string (a0.extract (x7_2 : Int).toNat ((wrap64 (x7_2 + 8)) : Int).toNat), .bool a1] ?_; (with_reducible refine (signalbenchref03_Int.calls k2 (a0.extract (x7_2 : Int).toNat ((wrap64 (x7_2 + 8)) : Int).toNat) a1 t332 t333 _ A13.out).mono ?_); rintro e w15 ⟨rfl, hb⟩; refine ⟨_, rfl, ?_⟩; replace HO_6 := sA (Kd.R_below (rkw HO_6.out) hb); replace HB := bst HB hb; (try clear hb); (try clear hk)) | ((with_reducible refine gate_builtin (b := .append) (xs := #[.tmp 34, .tmp 37]) rfl ?_); at_builtin; refine Kd.R_append (Kd.int .u8) (w0 := w) w.heap.size rfl (.tmp 34) (.tmp 37) 53 5 (.int .u8 0) 1 rfl Try.underlying53 info5 rfl (by decide) (by omega) u6 x6_2 ((t332) % 256) [.int .u8 ((t332) % 256)] (fun _ => True) (fun _ => False) rfl rfl ?aP (fun _ hk => hk.elim) ?aF ?aO ?aB ?aS ?aL ?_; (case aP => exact rfl); (case aB => exact (hbw HB.out)); (case aF => exact (fun _ _ => trivial)); (case aO => exact (rkw HO_6.out)); (case aS => exact (below_size (hbw HB.out))); (case aL => have := LMc14.out; omega); intro v335 w16 ho hb hg hat; rw [← Ny334.out] at ho; have n0_ := sA (hb); have n1_ := sA (ho); clear HB; clear HO_6; have HB := n0_; have HO336 := n1_; clear n0_ n1_; clear ho hb hg hat))
           go_roundg k2
           case measure => have := HJ3.out; have := HK2.out; omega
           case rel => exact ⟨(y334), (wrap64 (x7_2 + 8)), (by first | rfl | (simp; done) | (simp [*]; done)), H', ⟨by have := HJ3.out; have := HK2.out; omega⟩, ⟨by (with_reducible repeat (first | apply Kd.R_alloc | apply Kd.R_drewN | apply Kd.R_drew)); exact HO336.out⟩, ⟨hbw HB.out⟩⟩
          ·rw [if_neg c14] at H
           exact absurd H (by simp)
         ·rw [if_neg c12] at H
          exact absurd H (by simp)
        ·rw [if_neg c11] at H
         exact absurd H (by simp)
       ·rw [if_neg c10] at H
        exact absurd H (by simp)
      ·rw [if_neg c9] at H
       have c9b0 : decide (x7_2 < (a0.size : Int)) = false := decide_eq_false c9; clear c9
       simp only [Option.some.injEq, Prod.mk.injEq] at H
       obtain ⟨rfl, rfl⟩ := H; have hcv17 := own_string (P := Try.prog) Try.underlying53 Try.underlying5 Try.underlying9 (Kd.own_of_R HO_6.out)
       go_wp2
       go_ret2
       exact ⟨eW_, hbw HB.out⟩
   ·rw [if_neg c6] at H
    have c6b0 : (((a0.size : Int) % 8) == 0) = false := beq_eq_false_iff_ne.mpr c6; have c6b1 : (((a0.size : Int) % 8) != 0) = true := bne_iff_ne.mpr c6
    simp only [Option.some.injEq, Prod.mk.injEq] at H
    obtain ⟨rfl, rfl⟩ := H
    go_wp2
    go_ret2
    exact ⟨eW_, hbw HB.out⟩

end Go.Proofs.Ytbggkaofkohecaa.PSyncDecodes
