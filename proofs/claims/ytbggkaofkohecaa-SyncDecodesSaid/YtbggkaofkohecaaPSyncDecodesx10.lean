-- Written by a program of this session (wip/tools/pr.py), which calls the kit's print with changes of its own.
import Derived.Test.YtbggkaofkohecaaPSyncDecodesx0
namespace Go.Proofs.Ytbggkaofkohecaa.PSyncDecodes
open Go.RowKit Go.Proofs.YtbggkaofkohecaaW.PrintWords Go.Proofs.YtbggkaofkohecaaW.PrintLast Go.Proofs.YtbggkaofkohecaaW.PrintMore
attribute [local go_sem] max2_int min2_int max_two min_two max_three min_three max_four min_four   -- for this text's walks alone
set_option linter.unusedVariables false
set_option linter.unusedSimpArgs false

/-! ### signalbenchref03_Valid: function 42 -/
mutual
def signalbenchref03_Valid.j0 : Nat → ByteArray → Option (Bool)
 | 0, _ => none
 | k + 1, x0 => signalbenchref03_Valid.l0 k x0 0
def signalbenchref03_Valid.l0 : Nat → ByteArray → Int → Option (Bool)
 | 0, _, _ => none
 | k + 1, x0, x3 => if x3 < (x0.size : Int) then (if 0 ≤ x3 then (if (bt x0 x3) = 48 then (signalbenchref03_Valid.l0 k x0 (wrap64 (x3 + 1))) else (if (bt x0 x3) = 49 then (signalbenchref03_Valid.l0 k x0 (wrap64 (x3 + 1))) else (some false))) else (none)) else (some true)
end
def signalbenchref03_Valid.f (k : Nat) (a0 : ByteArray) : Option (Bool) := if (a0.size : Int) > 65536 then (some false) else (signalbenchref03_Valid.j0 k a0)
theorem signalbenchref03_Valid.mono_l : ∀ k, (∀ y0, LeO (signalbenchref03_Valid.j0 k y0) (signalbenchref03_Valid.j0 (k + 1) y0)) ∧ (∀ y0 y1, LeO (signalbenchref03_Valid.l0 k y0 y1) (signalbenchref03_Valid.l0 (k + 1) y0 y1))
 | 0 => ⟨fun _ r h => by simp [signalbenchref03_Valid.j0] at h, fun _ _ r h => by simp [signalbenchref03_Valid.l0] at h⟩
 | k + 1 => by
  obtain ⟨ih0, ih1⟩ := signalbenchref03_Valid.mono_l k
  refine ⟨?_, ?_⟩
  ·intro y0
   unfold signalbenchref03_Valid.j0
   repeat' first
   | (with_reducible exact ih0 _)
   | (with_reducible exact ih1 _ _)
   | (with_reducible exact LeO.refl _)
   | (with_reducible exact LeO.none _)
   | (with_reducible refine LeO.ite ?_ ?_)
   | (with_reducible refine LeO.bind ?_ (fun _ => ?_))
   | exact ih0 _
   | exact ih1 _ _
   | exact LeO.none _
   | refine LeO.ite ?_ ?_
   | refine LeO.bind ?_ (fun _ => ?_)
  ·intro y0 y1
   unfold signalbenchref03_Valid.l0
   repeat' first
   | (with_reducible exact ih0 _)
   | (with_reducible exact ih1 _ _)
   | (with_reducible exact LeO.refl _)
   | (with_reducible exact LeO.none _)
   | (with_reducible refine LeO.ite ?_ ?_)
   | (with_reducible refine LeO.bind ?_ (fun _ => ?_))
   | exact ih0 _
   | exact ih1 _ _
   | exact LeO.none _
   | refine LeO.ite ?_ ?_
   | refine LeO.bind ?_ (fun _ => ?_)
theorem signalbenchref03_Valid.mono : ∀ a0 k, LeO (signalbenchref03_Valid.f k a0) (signalbenchref03_Valid.f (k + 1) a0) := by
 intro a0 k
 obtain ⟨ih0, ih1⟩ := signalbenchref03_Valid.mono_l k
 unfold signalbenchref03_Valid.f
 repeat' first
   | (with_reducible exact ih0 _)
   | (with_reducible exact ih1 _ _)
   | (with_reducible exact LeO.refl _)
   | (with_reducible exact LeO.none _)
   | (with_reducible refine LeO.ite ?_ ?_)
   | (with_reducible refine LeO.bind ?_ (fun _ => ?_))
   | exact ih0 _
   | exact ih1 _ _
   | exact LeO.none _
   | refine LeO.ite ?_ ?_
   | refine LeO.bind ?_ (fun _ => ?_)
set_option maxHeartbeats 8000000 in
set_option maxRecDepth 100000 in
theorem signalbenchref03_Valid.calls (k : Nat) (a0 : ByteArray) (r : Bool) (w : World) (h : signalbenchref03_Valid.f k a0 = some r) :
  Calls Try.prog 42 #[.string a0] w fun e w' => e = .returned (.bool r) ∧ Drawn0 w w' := by
 have H : (if (a0.size : Int) > 65536 then (some false) else (signalbenchref03_Valid.j0 k a0)) = some r := h; clear h; have HC2 := sA H; clear H
 go_enter Try.func42, Try.ntmps42
 go_upto_if 6 with (fail)
 go_cut [] (fun wc => ∃ (kq : Nat), Aside0 (signalbenchref03_Valid.j0 kq a0 = some r) ∧ Aside0 (kq ≤ k) ∧ Drawn0 w wc)
 case first =>
  have H := HC2.out; clear HC2
  by_cases c3 : (a0.size : Int) > 65536
  ·rw [if_pos c3] at H
   have c3b0 : decide (65536 < (a0.size : Int)) = true := decide_eq_true c3; have c3b1 : decide (65536 < a0.size) = true := decide_eq_true (by omega); clear c3
   (first | rw [c3b0] | (simp only [i64_w, i32_w]; rw [c3b0]) | skip)
   obtain rfl := Option.some.inj H
   go_wp2
   go_ret
   exact ⟨by first | rfl | (simp; done) | (simp [*]; done), by repeat (first | exact Drawn0.refl _ | apply Drawn0.step)⟩
  ·rw [if_neg c3] at H
   have c3b0 : decide (65536 < (a0.size : Int)) = false := decide_eq_false c3; have c3b1 : decide (65536 < a0.size) = false := decide_eq_false (by omega); clear c3
   (first | rw [c3b0] | (simp only [i64_w, i32_w]; rw [c3b0]) | skip)
   have H' := sA H; clear H
   go_wp2
   go_meet
   case rel => exact ⟨_, H', ⟨by first | omega | exact Nat.le_refl _⟩, by repeat (first | exact Drawn0.refl _ | apply Drawn0.step)⟩
 case rest =>
  clear HC2
  obtain ⟨kq, HA, HJ1, ⟨mc1, rfl⟩⟩ := hcut
  cases kq with
  | zero => exact absurd HA.out (by simp [signalbenchref03_Valid.j0])
  | succ kj1 =>
   have H := HA.out; clear HA
   simp only [signalbenchref03_Valid.j0] at H
   have H' := sA H; clear H
   go_wp2
   go_loopg [3] kj1 (fun kq v3 w' => ∃ (x3_2 : Int), v3 = .int .i64 x3_2 ∧ Aside0 (signalbenchref03_Valid.l0 kq a0 x3_2 = some r) ∧ Aside0 (kq ≤ kj1) ∧ Drawn0 w w')
   case atStart => exact ⟨(0), (by first | rfl | (simp; done) | (simp [*]; done)), H', ⟨Nat.le_refl _⟩, by repeat (first | exact Drawn0.refl _ | apply Drawn0.step)⟩
   case round =>
    clear H'
    obtain ⟨x3_2, rfl, HA, HK2, ⟨m2, rfl⟩⟩ := hrel
    cases gk with
    | zero => exact absurd HA.out (by simp [signalbenchref03_Valid.l0])
    | succ k2 =>
     have H := HA.out; clear HA
     simp only [signalbenchref03_Valid.l0] at H
     by_cases c4 : x3_2 < (a0.size : Int)
     ·rw [if_pos c4] at H
      have c4b0 : decide (x3_2 < (a0.size : Int)) = true := decide_eq_true c4; clear c4
      by_cases c5 : 0 ≤ x3_2
      ·rw [if_pos c5] at H
       have c5b0 : decide (0 ≤ x3_2) = true := decide_eq_true c5; clear c5
       by_cases c7 : (bt a0 x3_2) = 48
       ·rw [if_pos c7] at H
        have c7b0 : ((bt a0 x3_2) == 48) = true := beq_iff_eq.mpr c7; have c7b1 : ((bt a0 x3_2) != 48) = false := bne_eq_false_iff_eq.mpr c7; clear c7; have H' := sA H; clear H; have p6 : 0 ≤ (x3_2 : Int) := of_decide_eq_true (by first | (with_reducible assumption) | assumption); have q6 : x3_2 < (a0.size : Int) := of_decide_eq_true (by first | (with_reducible assumption) | assumption); have hx6 := bt_at a0 x3_2; replace p6 := eq_true p6; replace q6 := eq_true q6
        go_wp2
        go_roundg k2
        case measure => have := HJ1.out; have := HK2.out; omega
        case rel => exact ⟨(wrap64 (x3_2 + 1)), (by first | rfl | (simp; done) | (simp [*]; done)), H', ⟨by have := HJ1.out; have := HK2.out; omega⟩, by repeat (first | exact Drawn0.refl _ | apply Drawn0.step)⟩
       ·rw [if_neg c7] at H
        have c7b0 : ((bt a0 x3_2) == 48) = false := beq_eq_false_iff_ne.mpr c7; have c7b1 : ((bt a0 x3_2) != 48) = true := bne_iff_ne.mpr c7
        by_cases c9 : (bt a0 x3_2) = 49
        ·rw [if_pos c9] at H
         have c9b0 : ((bt a0 x3_2) == 49) = true := beq_iff_eq.mpr c9; have c9b1 : ((bt a0 x3_2) != 49) = false := bne_eq_false_iff_eq.mpr c9; clear c9; have H' := sA H; clear H; have p6 : 0 ≤ (x3_2 : Int) := of_decide_eq_true (by first | (with_reducible assumption) | assumption); have q6 : x3_2 < (a0.size : Int) := of_decide_eq_true (by first | (with_reducible assumption) | assumption); have hx6 := bt_at a0 x3_2; replace p6 := eq_true p6; replace q6 := eq_true q6; have p8 : 0 ≤ (x3_2 : Int) := of_decide_eq_true (by first | (with_reducible assumption) | assumption); have q8 : x3_2 < (a0.size : Int) := of_decide_eq_true (by first | (with_reducible assumption) | assumption); have hx8 := bt_at a0 x3_2; replace p8 := eq_true p8; replace q8 := eq_true q8
         go_wp2
         go_roundg k2
         case measure => have := HJ1.out; have := HK2.out; omega
         case rel => exact ⟨(wrap64 (x3_2 + 1)), (by first | rfl | (simp; done) | (simp [*]; done)), H', ⟨by have := HJ1.out; have := HK2.out; omega⟩, by repeat (first | exact Drawn0.refl _ | apply Drawn0.step)⟩
        ·rw [if_neg c9] at H
         have c9b0 : ((bt a0 x3_2) == 49) = false := beq_eq_false_iff_ne.mpr c9; have c9b1 : ((bt a0 x3_2) != 49) = true := bne_iff_ne.mpr c9; obtain rfl := Option.some.inj H; have p6 : 0 ≤ (x3_2 : Int) := of_decide_eq_true (by first | (with_reducible assumption) | assumption); have q6 : x3_2 < (a0.size : Int) := of_decide_eq_true (by first | (with_reducible assumption) | assumption); have hx6 := bt_at a0 x3_2; replace p6 := eq_true p6; replace q6 := eq_true q6; have p8 : 0 ≤ (x3_2 : Int) := of_decide_eq_true (by first | (with_reducible assumption) | assumption); have q8 : x3_2 < (a0.size : Int) := of_decide_eq_true (by first | (with_reducible assumption) | assumption); have hx8 := bt_at a0 x3_2; replace p8 := eq_true p8; replace q8 := eq_true q8
         go_wp2
         go_ret
         exact ⟨by first | rfl | (simp; done) | (simp [*]; done), by repeat (first | exact Drawn0.refl _ | apply Drawn0.step)⟩
      ·rw [if_neg c5] at H
       exact absurd H (by simp)
     ·rw [if_neg c4] at H
      have c4b0 : decide (x3_2 < (a0.size : Int)) = false := decide_eq_false c4; clear c4; obtain rfl := Option.some.inj H
      go_wp2
      go_ret
      exact ⟨by first | rfl | (simp; done) | (simp [*]; done), by repeat (first | exact Drawn0.refl _ | apply Drawn0.step)⟩

/-! ### signalbenchref21_Check: function 22 -/
def signalbenchref21_Check.f (k : Nat) (a0_0 : ByteArray) (a0_1 : Int) (a0_2 : Bool) : Option (Int) := (signalbenchref03_Valid.f k a0_0).bind fun t288 => (if t288 = true then (if (a0_0.size : Int) < 8 then (some 2) else (if (a0_0.size : Int) > 32 then (some 2) else (if a0_1 < 1 then (some 2) else (if a0_1 > 256 then (some 2) else (some 0))))) else (some 4))
theorem signalbenchref21_Check.mono : ∀ a0 a1 a2 k, LeO (signalbenchref21_Check.f k a0 a1 a2) (signalbenchref21_Check.f (k + 1) a0 a1 a2) := by
 intro a0 a1 a2 k
 unfold signalbenchref21_Check.f
 repeat' first
   | (with_reducible exact signalbenchref03_Valid.mono _ _)
   | (with_reducible exact LeO.refl _)
   | (with_reducible exact LeO.none _)
   | (with_reducible refine LeO.ite ?_ ?_)
   | (with_reducible refine LeO.bind ?_ (fun _ => ?_))
   | exact signalbenchref03_Valid.mono _ _
   | exact LeO.none _
   | refine LeO.ite ?_ ?_
   | refine LeO.bind ?_ (fun _ => ?_)
set_option maxHeartbeats 8000000 in
set_option maxRecDepth 100000 in
theorem signalbenchref21_Check.calls (k : Nat) (a0_0 : ByteArray) (a0_1 : Int) (a0_2 : Bool) (r : Int) (w : World) (h : signalbenchref21_Check.f k a0_0 a0_1 a0_2 = some r) :
  Calls Try.prog 22 #[.agg #[.string a0_0, .int .i64 a0_1, .bool a0_2]] w fun e w' => e = .returned (.int .i64 r) ∧ Below w.heap.size w w' := by
 have hu23 := Try.underlying23; have HB := sA (Below.refl w.heap.size w); have H : ((signalbenchref03_Valid.f k a0_0).bind fun t288 => (if t288 = true then (if (a0_0.size : Int) < 8 then (some 2) else (if (a0_0.size : Int) > 32 then (some 2) else (if a0_1 < 1 then (some 2) else (if a0_1 > 256 then (some 2) else (some 0))))) else (some 4))) = some r := h; clear h; replace H := Option.bind_eq_some_iff.mp H; obtain ⟨t288, A20, H⟩ := H; replace H : (if t288 = true then (if (a0_0.size : Int) < 8 then (some 2) else (if (a0_0.size : Int) > 32 then (some 2) else (if a0_1 < 1 then (some 2) else (if a0_1 > 256 then (some 2) else (some 0))))) else (some 4)) = some r := H; have A2 := sA A20; clear A20
 by_cases c3 : t288 = true
 ·subst c3
  have H1 : (if (a0_0.size : Int) < 8 then (some 2) else (if (a0_0.size : Int) > 32 then (some 2) else (if a0_1 < 1 then (some 2) else (if a0_1 > 256 then (some 2) else (some 0))))) = some r := by rw [if_pos rfl] at H; exact H
  clear H; have H := H1; clear H1
  by_cases c4 : (a0_0.size : Int) < 8
  ·rw [if_pos c4] at H
   have c4b0 : decide ((a0_0.size : Int) < 8) = true := decide_eq_true c4; have c4b1 : decide (a0_0.size < 8) = true := decide_eq_true (by omega); clear c4; obtain rfl := Option.some.inj H
   go_enter Try.func22, Try.ntmps22
   go_wp2_with (first | ((with_reducible refine gate_dst (N := 1) rfl ?_); (try (refine gate_guard (by first | rfl | (go_simp; done)) ?_; dsimp only)); refine boxK 1 #[.string a0_0, .int .i64 a0_1, .bool a0_2] 23 ?_; intro gb287 hg w5 hbox hb; have BK287 := sA hbox; have GW287 := bsz HB hg; have GE287 := bsz HB hg; replace HB := bst HB hb; clear hb hbox hg; obtain ⟨_,_,_,_,_,_⟩ := cQ3 BK287) | ((with_reducible refine gate_callee (f := 42) rfl ?_); refine goesK (some 5) Try.func42 #[.string a0_0] ?_; (with_reducible refine (signalbenchref03_Valid.calls k a0_0 true _ A2.out).mono ?_); rintro e w' ⟨rfl, ⟨nd, rfl⟩⟩; refine ⟨_, rfl, ?_⟩))
   go_ret
   exact ⟨eW_, hbw HB.out⟩
  ·rw [if_neg c4] at H
   have c4b0 : decide ((a0_0.size : Int) < 8) = false := decide_eq_false c4; have c4b1 : decide (a0_0.size < 8) = false := decide_eq_false (by omega); clear c4
   by_cases c7 : (a0_0.size : Int) > 32
   ·rw [if_pos c7] at H
    have c7b0 : decide (32 < (a0_0.size : Int)) = true := decide_eq_true c7; have c7b1 : decide (32 < a0_0.size) = true := decide_eq_true (by omega); clear c7; obtain rfl := Option.some.inj H
    go_enter Try.func22, Try.ntmps22
    go_wp2_with (first | ((with_reducible refine gate_dst (N := 1) rfl ?_); (try (refine gate_guard (by first | rfl | (go_simp; done)) ?_; dsimp only)); refine boxK 1 #[.string a0_0, .int .i64 a0_1, .bool a0_2] 23 ?_; intro gb287 hg w8 hbox hb; have BK287 := sA hbox; have GW287 := bsz HB hg; have GE287 := bsz HB hg; replace HB := bst HB hb; clear hb hbox hg; obtain ⟨_,_,_,_,_,_⟩ := cQ3 BK287) | ((with_reducible refine gate_callee (f := 42) rfl ?_); refine goesK (some 5) Try.func42 #[.string a0_0] ?_; (with_reducible refine (signalbenchref03_Valid.calls k a0_0 true _ A2.out).mono ?_); rintro e w' ⟨rfl, ⟨nd, rfl⟩⟩; refine ⟨_, rfl, ?_⟩))
    go_ret
    exact ⟨eW_, hbw HB.out⟩
   ·rw [if_neg c7] at H
    have c7b0 : decide (32 < (a0_0.size : Int)) = false := decide_eq_false c7; have c7b1 : decide (32 < a0_0.size) = false := decide_eq_false (by omega); clear c7
    by_cases c10 : a0_1 < 1
    ·rw [if_pos c10] at H
     have c10b0 : decide (a0_1 < 1) = true := decide_eq_true c10; clear c10; obtain rfl := Option.some.inj H
     go_enter Try.func22, Try.ntmps22
     go_wp2_with (first | ((with_reducible refine gate_dst (N := 1) rfl ?_); (try (refine gate_guard (by first | rfl | (go_simp; done)) ?_; dsimp only)); refine boxK 1 #[.string a0_0, .int .i64 a0_1, .bool a0_2] 23 ?_; intro gb287 hg w11 hbox hb; have BK287 := sA hbox; have GW287 := bsz HB hg; have GE287 := bsz HB hg; replace HB := bst HB hb; clear hb hbox hg; obtain ⟨_,_,_,_,_,_⟩ := cQ3 BK287) | ((with_reducible refine gate_callee (f := 42) rfl ?_); refine goesK (some 5) Try.func42 #[.string a0_0] ?_; (with_reducible refine (signalbenchref03_Valid.calls k a0_0 true _ A2.out).mono ?_); rintro e w' ⟨rfl, ⟨nd, rfl⟩⟩; refine ⟨_, rfl, ?_⟩))
     go_ret
     exact ⟨eW_, hbw HB.out⟩
    ·rw [if_neg c10] at H
     have c10b0 : decide (a0_1 < 1) = false := decide_eq_false c10; clear c10
     by_cases c13 : a0_1 > 256
     ·rw [if_pos c13] at H
      have c13b0 : decide (256 < a0_1) = true := decide_eq_true c13; clear c13; obtain rfl := Option.some.inj H
      go_enter Try.func22, Try.ntmps22
      go_wp2_with (first | ((with_reducible refine gate_dst (N := 1) rfl ?_); (try (refine gate_guard (by first | rfl | (go_simp; done)) ?_; dsimp only)); refine boxK 1 #[.string a0_0, .int .i64 a0_1, .bool a0_2] 23 ?_; intro gb287 hg w14 hbox hb; have BK287 := sA hbox; have GW287 := bsz HB hg; have GE287 := bsz HB hg; replace HB := bst HB hb; clear hb hbox hg; obtain ⟨_,_,_,_,_,_⟩ := cQ3 BK287) | ((with_reducible refine gate_callee (f := 42) rfl ?_); refine goesK (some 5) Try.func42 #[.string a0_0] ?_; (with_reducible refine (signalbenchref03_Valid.calls k a0_0 true _ A2.out).mono ?_); rintro e w' ⟨rfl, ⟨nd, rfl⟩⟩; refine ⟨_, rfl, ?_⟩))
      go_ret
      exact ⟨eW_, hbw HB.out⟩
     ·rw [if_neg c13] at H
      have c13b0 : decide (256 < a0_1) = false := decide_eq_false c13; clear c13; obtain rfl := Option.some.inj H
      go_enter Try.func22, Try.ntmps22
      go_wp2_with (first | ((with_reducible refine gate_dst (N := 1) rfl ?_); (try (refine gate_guard (by first | rfl | (go_simp; done)) ?_; dsimp only)); refine boxK 1 #[.string a0_0, .int .i64 a0_1, .bool a0_2] 23 ?_; intro gb287 hg w16 hbox hb; have BK287 := sA hbox; have GW287 := bsz HB hg; have GE287 := bsz HB hg; replace HB := bst HB hb; clear hb hbox hg; obtain ⟨_,_,_,_,_,_⟩ := cQ3 BK287) | ((with_reducible refine gate_callee (f := 42) rfl ?_); refine goesK (some 5) Try.func42 #[.string a0_0] ?_; (with_reducible refine (signalbenchref03_Valid.calls k a0_0 true _ A2.out).mono ?_); rintro e w' ⟨rfl, ⟨nd, rfl⟩⟩; refine ⟨_, rfl, ?_⟩))
      go_ret
      exact ⟨eW_, hbw HB.out⟩
 ·replace c3 := Bool.eq_false_iff.mpr c3
  subst c3
  have H1 : (some 4) = some r := by rw [if_neg (show ¬ (false = true) by decide)] at H; exact H
  clear H; have H := H1; clear H1; obtain rfl := Option.some.inj H
  go_enter Try.func22, Try.ntmps22
  go_wp2_with (first | ((with_reducible refine gate_dst (N := 1) rfl ?_); (try (refine gate_guard (by first | rfl | (go_simp; done)) ?_; dsimp only)); refine boxK 1 #[.string a0_0, .int .i64 a0_1, .bool a0_2] 23 ?_; intro gb287 hg w18 hbox hb; have BK287 := sA hbox; have GW287 := bsz HB hg; have GE287 := bsz HB hg; replace HB := bst HB hb; clear hb hbox hg; obtain ⟨_,_,_,_,_,_⟩ := cQ3 BK287) | ((with_reducible refine gate_callee (f := 42) rfl ?_); refine goesK (some 5) Try.func42 #[.string a0_0] ?_; (with_reducible refine (signalbenchref03_Valid.calls k a0_0 false _ A2.out).mono ?_); rintro e w' ⟨rfl, ⟨nd, rfl⟩⟩; refine ⟨_, rfl, ?_⟩))
  go_ret
  exact ⟨eW_, hbw HB.out⟩

/-! ### signalbenchref07_Valid: function 45 -/
def signalbenchref07_Valid.f (a0_0 : Int) (a0_1 : Int) (a0_2 : Int) (a0_3 : Int) (a0_4 : Int) (a0_5 : ByteArray) (a0_6 : Int) : Option (Bool) := if a0_0 < 1 then (some false) else (if a0_0 > 8 then (some false) else (if a0_1 < 0 then (some false) else (if a0_1 > a0_2 then (some false) else (if a0_2 > 1099511627776 then (some false) else (if (a0_5.size : Int) > 4096 then (some false) else (if a0_6 < 0 then (some false) else (if a0_6 > 12 then (some false) else (if a0_3 ≥ (-9007199254740992) then (if a0_3 ≤ 9007199254740992 then (if a0_4 ≥ (-9007199254740992) then (some (decide (a0_4 ≤ 9007199254740992))) else (some false)) else (some false)) else (some false)))))))))
set_option maxHeartbeats 8000000 in
set_option maxRecDepth 100000 in
theorem signalbenchref07_Valid.calls (a0_0 : Int) (a0_1 : Int) (a0_2 : Int) (a0_3 : Int) (a0_4 : Int) (a0_5 : ByteArray) (a0_6 : Int) (r : Bool) (w : World) (h : signalbenchref07_Valid.f a0_0 a0_1 a0_2 a0_3 a0_4 a0_5 a0_6 = some r) :
  Calls Try.prog 45 #[.agg #[.int .i64 a0_0, .int .i64 a0_1, .int .i64 a0_2, .int .i64 a0_3, .int .i64 a0_4, .string a0_5, .int .i64 a0_6]] w fun e w' => e = .returned (.bool r) ∧ Below w.heap.size w w' := by
 have hu32 := Try.underlying32; have HB := sA (Below.refl w.heap.size w); have H : (if a0_0 < 1 then (some false) else (if a0_0 > 8 then (some false) else (if a0_1 < 0 then (some false) else (if a0_1 > a0_2 then (some false) else (if a0_2 > 1099511627776 then (some false) else (if (a0_5.size : Int) > 4096 then (some false) else (if a0_6 < 0 then (some false) else (if a0_6 > 12 then (some false) else (if a0_3 ≥ (-9007199254740992) then (if a0_3 ≤ 9007199254740992 then (if a0_4 ≥ (-9007199254740992) then (some (decide (a0_4 ≤ 9007199254740992))) else (some false)) else (some false)) else (some false)))))))))) = some r := h; clear h
 by_cases c2 : a0_0 < 1
 ·rw [if_pos c2] at H
  have c2b0 : decide (a0_0 < 1) = true := decide_eq_true c2; clear c2; obtain rfl := Option.some.inj H
  go_enter Try.func45, Try.ntmps45
  go_wp2_with (first | ((with_reducible refine gate_dst (N := 1) rfl ?_); (try (refine gate_guard (by first | rfl | (go_simp; done)) ?_; dsimp only)); refine boxK 1 #[.int .i64 a0_0, .int .i64 a0_1, .int .i64 a0_2, .int .i64 a0_3, .int .i64 a0_4, .string a0_5, .int .i64 a0_6] 32 ?_; intro gb289 hg w3 hbox hb; have BK289 := sA hbox; have GW289 := bsz HB hg; have GE289 := bsz HB hg; replace HB := bst HB hb; clear hb hbox hg; obtain ⟨_,_,_,_,_,_,_,_,_,_,_,_,_,_⟩ := cQ7 BK289))
  go_ret
  exact ⟨eW_, hbw HB.out⟩
 ·rw [if_neg c2] at H
  have c2b0 : decide (a0_0 < 1) = false := decide_eq_false c2; clear c2
  by_cases c5 : a0_0 > 8
  ·rw [if_pos c5] at H
   have c5b0 : decide (8 < a0_0) = true := decide_eq_true c5; clear c5; obtain rfl := Option.some.inj H
   go_enter Try.func45, Try.ntmps45
   go_wp2_with (first | ((with_reducible refine gate_dst (N := 1) rfl ?_); (try (refine gate_guard (by first | rfl | (go_simp; done)) ?_; dsimp only)); refine boxK 1 #[.int .i64 a0_0, .int .i64 a0_1, .int .i64 a0_2, .int .i64 a0_3, .int .i64 a0_4, .string a0_5, .int .i64 a0_6] 32 ?_; intro gb289 hg w6 hbox hb; have BK289 := sA hbox; have GW289 := bsz HB hg; have GE289 := bsz HB hg; replace HB := bst HB hb; clear hb hbox hg; obtain ⟨_,_,_,_,_,_,_,_,_,_,_,_,_,_⟩ := cQ7 BK289))
   go_ret
   exact ⟨eW_, hbw HB.out⟩
  ·rw [if_neg c5] at H
   have c5b0 : decide (8 < a0_0) = false := decide_eq_false c5; clear c5
   by_cases c8 : a0_1 < 0
   ·rw [if_pos c8] at H
    have c8b0 : decide (a0_1 < 0) = true := decide_eq_true c8; clear c8; obtain rfl := Option.some.inj H
    go_enter Try.func45, Try.ntmps45
    go_wp2_with (first | ((with_reducible refine gate_dst (N := 1) rfl ?_); (try (refine gate_guard (by first | rfl | (go_simp; done)) ?_; dsimp only)); refine boxK 1 #[.int .i64 a0_0, .int .i64 a0_1, .int .i64 a0_2, .int .i64 a0_3, .int .i64 a0_4, .string a0_5, .int .i64 a0_6] 32 ?_; intro gb289 hg w9 hbox hb; have BK289 := sA hbox; have GW289 := bsz HB hg; have GE289 := bsz HB hg; replace HB := bst HB hb; clear hb hbox hg; obtain ⟨_,_,_,_,_,_,_,_,_,_,_,_,_,_⟩ := cQ7 BK289))
    go_ret
    exact ⟨eW_, hbw HB.out⟩
   ·rw [if_neg c8] at H
    have c8b0 : decide (a0_1 < 0) = false := decide_eq_false c8; clear c8
    by_cases c11 : a0_1 > a0_2
    ·rw [if_pos c11] at H
     have c11b0 : decide (a0_2 < a0_1) = true := decide_eq_true c11; clear c11; obtain rfl := Option.some.inj H
     go_enter Try.func45, Try.ntmps45
     go_wp2_with (first | ((with_reducible refine gate_dst (N := 1) rfl ?_); (try (refine gate_guard (by first | rfl | (go_simp; done)) ?_; dsimp only)); refine boxK 1 #[.int .i64 a0_0, .int .i64 a0_1, .int .i64 a0_2, .int .i64 a0_3, .int .i64 a0_4, .string a0_5, .int .i64 a0_6] 32 ?_; intro gb289 hg w12 hbox hb; have BK289 := sA hbox; have GW289 := bsz HB hg; have GE289 := bsz HB hg; replace HB := bst HB hb; clear hb hbox hg; obtain ⟨_,_,_,_,_,_,_,_,_,_,_,_,_,_⟩ := cQ7 BK289))
     go_ret
     exact ⟨eW_, hbw HB.out⟩
    ·rw [if_neg c11] at H
     have c11b0 : decide (a0_2 < a0_1) = false := decide_eq_false c11; clear c11
     by_cases c14 : a0_2 > 1099511627776
     ·rw [if_pos c14] at H
      have c14b0 : decide (1099511627776 < a0_2) = true := decide_eq_true c14; clear c14; obtain rfl := Option.some.inj H
      go_enter Try.func45, Try.ntmps45
      go_wp2_with (first | ((with_reducible refine gate_dst (N := 1) rfl ?_); (try (refine gate_guard (by first | rfl | (go_simp; done)) ?_; dsimp only)); refine boxK 1 #[.int .i64 a0_0, .int .i64 a0_1, .int .i64 a0_2, .int .i64 a0_3, .int .i64 a0_4, .string a0_5, .int .i64 a0_6] 32 ?_; intro gb289 hg w15 hbox hb; have BK289 := sA hbox; have GW289 := bsz HB hg; have GE289 := bsz HB hg; replace HB := bst HB hb; clear hb hbox hg; obtain ⟨_,_,_,_,_,_,_,_,_,_,_,_,_,_⟩ := cQ7 BK289))
      go_ret
      exact ⟨eW_, hbw HB.out⟩
     ·rw [if_neg c14] at H
      have c14b0 : decide (1099511627776 < a0_2) = false := decide_eq_false c14; clear c14
      by_cases c17 : (a0_5.size : Int) > 4096
      ·rw [if_pos c17] at H
       have c17b0 : decide (4096 < (a0_5.size : Int)) = true := decide_eq_true c17; have c17b1 : decide (4096 < a0_5.size) = true := decide_eq_true (by omega); clear c17; obtain rfl := Option.some.inj H
       go_enter Try.func45, Try.ntmps45
       go_wp2_with (first | ((with_reducible refine gate_dst (N := 1) rfl ?_); (try (refine gate_guard (by first | rfl | (go_simp; done)) ?_; dsimp only)); refine boxK 1 #[.int .i64 a0_0, .int .i64 a0_1, .int .i64 a0_2, .int .i64 a0_3, .int .i64 a0_4, .string a0_5, .int .i64 a0_6] 32 ?_; intro gb289 hg w18 hbox hb; have BK289 := sA hbox; have GW289 := bsz HB hg; have GE289 := bsz HB hg; replace HB := bst HB hb; clear hb hbox hg; obtain ⟨_,_,_,_,_,_,_,_,_,_,_,_,_,_⟩ := cQ7 BK289))
       go_ret
       exact ⟨eW_, hbw HB.out⟩
      ·rw [if_neg c17] at H
       have c17b0 : decide (4096 < (a0_5.size : Int)) = false := decide_eq_false c17; have c17b1 : decide (4096 < a0_5.size) = false := decide_eq_false (by omega); clear c17
       by_cases c20 : a0_6 < 0
       ·rw [if_pos c20] at H
        have c20b0 : decide (a0_6 < 0) = true := decide_eq_true c20; clear c20; obtain rfl := Option.some.inj H
        go_enter Try.func45, Try.ntmps45
        go_wp2_with (first | ((with_reducible refine gate_dst (N := 1) rfl ?_); (try (refine gate_guard (by first | rfl | (go_simp; done)) ?_; dsimp only)); refine boxK 1 #[.int .i64 a0_0, .int .i64 a0_1, .int .i64 a0_2, .int .i64 a0_3, .int .i64 a0_4, .string a0_5, .int .i64 a0_6] 32 ?_; intro gb289 hg w21 hbox hb; have BK289 := sA hbox; have GW289 := bsz HB hg; have GE289 := bsz HB hg; replace HB := bst HB hb; clear hb hbox hg; obtain ⟨_,_,_,_,_,_,_,_,_,_,_,_,_,_⟩ := cQ7 BK289))
        go_ret
        exact ⟨eW_, hbw HB.out⟩
       ·rw [if_neg c20] at H
        have c20b0 : decide (a0_6 < 0) = false := decide_eq_false c20; clear c20
        by_cases c23 : a0_6 > 12
        ·rw [if_pos c23] at H
         have c23b0 : decide (12 < a0_6) = true := decide_eq_true c23; clear c23; obtain rfl := Option.some.inj H
         go_enter Try.func45, Try.ntmps45
         go_wp2_with (first | ((with_reducible refine gate_dst (N := 1) rfl ?_); (try (refine gate_guard (by first | rfl | (go_simp; done)) ?_; dsimp only)); refine boxK 1 #[.int .i64 a0_0, .int .i64 a0_1, .int .i64 a0_2, .int .i64 a0_3, .int .i64 a0_4, .string a0_5, .int .i64 a0_6] 32 ?_; intro gb289 hg w24 hbox hb; have BK289 := sA hbox; have GW289 := bsz HB hg; have GE289 := bsz HB hg; replace HB := bst HB hb; clear hb hbox hg; obtain ⟨_,_,_,_,_,_,_,_,_,_,_,_,_,_⟩ := cQ7 BK289))
         go_ret
         exact ⟨eW_, hbw HB.out⟩
        ·rw [if_neg c23] at H
         have c23b0 : decide (12 < a0_6) = false := decide_eq_false c23; clear c23
         by_cases c26 : a0_3 ≥ (-9007199254740992)
         ·rw [if_pos c26] at H
          have c26b0 : decide ((-9007199254740992) ≤ a0_3) = true := decide_eq_true c26; clear c26
          by_cases c27 : a0_3 ≤ 9007199254740992
          ·rw [if_pos c27] at H
           have c27b0 : decide (a0_3 ≤ 9007199254740992) = true := decide_eq_true c27; clear c27
           by_cases c28 : a0_4 ≥ (-9007199254740992)
           ·rw [if_pos c28] at H
            have c28b0 : decide ((-9007199254740992) ≤ a0_4) = true := decide_eq_true c28; clear c28; obtain rfl := Option.some.inj H
            go_enter Try.func45, Try.ntmps45
            go_wp2_with (first | ((with_reducible refine gate_dst (N := 1) rfl ?_); (try (refine gate_guard (by first | rfl | (go_simp; done)) ?_; dsimp only)); refine boxK 1 #[.int .i64 a0_0, .int .i64 a0_1, .int .i64 a0_2, .int .i64 a0_3, .int .i64 a0_4, .string a0_5, .int .i64 a0_6] 32 ?_; intro gb289 hg w29 hbox hb; have BK289 := sA hbox; have GW289 := bsz HB hg; have GE289 := bsz HB hg; replace HB := bst HB hb; clear hb hbox hg; obtain ⟨_,_,_,_,_,_,_,_,_,_,_,_,_,_⟩ := cQ7 BK289))
            go_ret
            exact ⟨eW_, hbw HB.out⟩
           ·rw [if_neg c28] at H
            have c28b0 : decide ((-9007199254740992) ≤ a0_4) = false := decide_eq_false c28; clear c28; obtain rfl := Option.some.inj H
            go_enter Try.func45, Try.ntmps45
            go_wp2_with (first | ((with_reducible refine gate_dst (N := 1) rfl ?_); (try (refine gate_guard (by first | rfl | (go_simp; done)) ?_; dsimp only)); refine boxK 1 #[.int .i64 a0_0, .int .i64 a0_1, .int .i64 a0_2, .int .i64 a0_3, .int .i64 a0_4, .string a0_5, .int .i64 a0_6] 32 ?_; intro gb289 hg w31 hbox hb; have BK289 := sA hbox; have GW289 := bsz HB hg; have GE289 := bsz HB hg; replace HB := bst HB hb; clear hb hbox hg; obtain ⟨_,_,_,_,_,_,_,_,_,_,_,_,_,_⟩ := cQ7 BK289))
            go_ret
            exact ⟨eW_, hbw HB.out⟩
          ·rw [if_neg c27] at H
           have c27b0 : decide (a0_3 ≤ 9007199254740992) = false := decide_eq_false c27; clear c27; obtain rfl := Option.some.inj H
           go_enter Try.func45, Try.ntmps45
           go_wp2_with (first | ((with_reducible refine gate_dst (N := 1) rfl ?_); (try (refine gate_guard (by first | rfl | (go_simp; done)) ?_; dsimp only)); refine boxK 1 #[.int .i64 a0_0, .int .i64 a0_1, .int .i64 a0_2, .int .i64 a0_3, .int .i64 a0_4, .string a0_5, .int .i64 a0_6] 32 ?_; intro gb289 hg w33 hbox hb; have BK289 := sA hbox; have GW289 := bsz HB hg; have GE289 := bsz HB hg; replace HB := bst HB hb; clear hb hbox hg; obtain ⟨_,_,_,_,_,_,_,_,_,_,_,_,_,_⟩ := cQ7 BK289))
           go_ret
           exact ⟨eW_, hbw HB.out⟩
         ·rw [if_neg c26] at H
          have c26b0 : decide ((-9007199254740992) ≤ a0_3) = false := decide_eq_false c26; clear c26; obtain rfl := Option.some.inj H
          go_enter Try.func45, Try.ntmps45
          go_wp2_with (first | ((with_reducible refine gate_dst (N := 1) rfl ?_); (try (refine gate_guard (by first | rfl | (go_simp; done)) ?_; dsimp only)); refine boxK 1 #[.int .i64 a0_0, .int .i64 a0_1, .int .i64 a0_2, .int .i64 a0_3, .int .i64 a0_4, .string a0_5, .int .i64 a0_6] 32 ?_; intro gb289 hg w35 hbox hb; have BK289 := sA hbox; have GW289 := bsz HB hg; have GE289 := bsz HB hg; replace HB := bst HB hb; clear hb hbox hg; obtain ⟨_,_,_,_,_,_,_,_,_,_,_,_,_,_⟩ := cQ7 BK289))
          go_ret
          exact ⟨eW_, hbw HB.out⟩

/-! ### signalbenchref21_accepted: function 34 -/
def signalbenchref21_accepted.f (a0_0 : Int) (a0_1 : Int) (a0_2 : Int) (a0_3 : Int) (a0_4 : Int) (a0_5 : Int) (a0_6 : Int) (a0_7 : ByteArray) (a1_0 : Int) (a1_1 : Int) (a1_2 : Int) (a1_3 : Int) (a1_4 : Int) (a1_5 : ByteArray) (a1_6 : Int) : Option (Bool) := (signalbenchref07_Valid.f a1_0 a1_1 a1_2 a1_3 a1_4 a1_5 a1_6).bind fun t292 => (if t292 = true then (if a1_0 = 2 then (if a1_3 = 0 then (some (decide (a1_1 ≥ a0_6))) else (if a1_3 = 1 then (some (decide (a1_1 ≥ a0_6))) else (some false))) else (some false)) else (some false))
set_option maxHeartbeats 8000000 in
set_option maxRecDepth 100000 in
theorem signalbenchref21_accepted.calls (a0_0 : Int) (a0_1 : Int) (a0_2 : Int) (a0_3 : Int) (a0_4 : Int) (a0_5 : Int) (a0_6 : Int) (a0_7 : ByteArray) (a1_0 : Int) (a1_1 : Int) (a1_2 : Int) (a1_3 : Int) (a1_4 : Int) (a1_5 : ByteArray) (a1_6 : Int) (r : Bool) (w : World) (h : signalbenchref21_accepted.f a0_0 a0_1 a0_2 a0_3 a0_4 a0_5 a0_6 a0_7 a1_0 a1_1 a1_2 a1_3 a1_4 a1_5 a1_6 = some r) :
  Calls Try.prog 34 #[.agg #[.int .i64 a0_0, .int .i64 a0_1, .int .i64 a0_2, .int .i64 a0_3, .int .i64 a0_4, .int .i64 a0_5, .int .i64 a0_6, .string a0_7], .agg #[.int .i64 a1_0, .int .i64 a1_1, .int .i64 a1_2, .int .i64 a1_3, .int .i64 a1_4, .string a1_5, .int .i64 a1_6]] w fun e w' => e = .returned (.bool r) ∧ Below w.heap.size w w' := by
 have hu27 := Try.underlying27; have hu32 := Try.underlying32; have HB := sA (Below.refl w.heap.size w); have H : ((signalbenchref07_Valid.f a1_0 a1_1 a1_2 a1_3 a1_4 a1_5 a1_6).bind fun t292 => (if t292 = true then (if a1_0 = 2 then (if a1_3 = 0 then (some (decide (a1_1 ≥ a0_6))) else (if a1_3 = 1 then (some (decide (a1_1 ≥ a0_6))) else (some false))) else (some false)) else (some false))) = some r := h; clear h; replace H := Option.bind_eq_some_iff.mp H; obtain ⟨t292, A30, H⟩ := H; replace H : (if t292 = true then (if a1_0 = 2 then (if a1_3 = 0 then (some (decide (a1_1 ≥ a0_6))) else (if a1_3 = 1 then (some (decide (a1_1 ≥ a0_6))) else (some false))) else (some false)) else (some false)) = some r := H; have A3 := sA A30; clear A30
 by_cases c4 : t292 = true
 ·subst c4
  have H1 : (if a1_0 = 2 then (if a1_3 = 0 then (some (decide (a1_1 ≥ a0_6))) else (if a1_3 = 1 then (some (decide (a1_1 ≥ a0_6))) else (some false))) else (some false)) = some r := by rw [if_pos rfl] at H; exact H
  clear H; have H := H1; clear H1
  by_cases c5 : a1_0 = 2
  ·rw [if_pos c5] at H
   have c5b0 : (a1_0 == 2) = true := beq_iff_eq.mpr c5; have c5b1 : (a1_0 != 2) = false := bne_eq_false_iff_eq.mpr c5; clear c5
   by_cases c6 : a1_3 = 0
   ·rw [if_pos c6] at H
    have c6b0 : (a1_3 == 0) = true := beq_iff_eq.mpr c6; have c6b1 : (a1_3 != 0) = false := bne_eq_false_iff_eq.mpr c6; clear c6; obtain rfl := Option.some.inj H
    go_enter Try.func34, Try.ntmps34
    go_wp2_with (first | ((with_reducible refine gate_dst (N := 2) rfl ?_); refine boxK 2 #[.int .i64 a0_0, .int .i64 a0_1, .int .i64 a0_2, .int .i64 a0_3, .int .i64 a0_4, .int .i64 a0_5, .int .i64 a0_6, .string a0_7] 27 ?_; intro gb290 hg w7 hbox hb; have BK290 := sA hbox; have GW290 := bsz HB hg; have GE290 := bsz HB hg; replace HB := bst HB hb; clear hb hbox hg) | ((with_reducible refine gate_dst (N := 3) rfl ?_); refine boxK 3 #[.int .i64 a1_0, .int .i64 a1_1, .int .i64 a1_2, .int .i64 a1_3, .int .i64 a1_4, .string a1_5, .int .i64 a1_6] 32 ?_; intro gb291 hg w8 hbox hb; have BK291 := sA hbox; have GW291 := bsz HB hg; have GE291 := bsz HB hg; have NB290_291 := bnl BK290 hg; have NB291_290 := bng BK290 hg; replace BK290 := sA (blkb BK290.out hb); replace HB := bst HB hb; clear hb hbox hg; have hnb9 := NB291_290.out; have hnc9 := NB290_291.out; obtain ⟨_,_,_,_,_,_,_,_,_,_,_,_,_,_⟩ := cQ7 BK291) | ((with_reducible refine gate_callee (f := 45) rfl ?_); refine goesK (some 6) Try.func45 #[.agg #[.int .i64 a1_0, .int .i64 a1_1, .int .i64 a1_2, .int .i64 a1_3, .int .i64 a1_4, .string a1_5, .int .i64 a1_6]] ?_; (with_reducible refine (signalbenchref07_Valid.calls a1_0 a1_1 a1_2 a1_3 a1_4 a1_5 a1_6 true _ A3.out).mono ?_); rintro e w11 ⟨rfl, hb⟩; refine ⟨_, rfl, ?_⟩; replace BK290 := sA (blkb BK290.out hb); replace BK291 := sA (blkb BK291.out hb); replace HB := bst HB hb; (try clear hb); obtain ⟨_,_,_,_,_,_,_,_,_,_,_,_,_,_⟩ := cQ7 BK291; obtain ⟨_,_,_,_,_,_,_,_,_,_,_,_,_,_,_,_⟩ := cQ8 BK290))
    go_ret
    exact ⟨eW_, hbw HB.out⟩
   ·rw [if_neg c6] at H
    have c6b0 : (a1_3 == 0) = false := beq_eq_false_iff_ne.mpr c6; have c6b1 : (a1_3 != 0) = true := bne_iff_ne.mpr c6
    by_cases c14 : a1_3 = 1
    ·rw [if_pos c14] at H
     have c14b0 : (a1_3 == 1) = true := beq_iff_eq.mpr c14; have c14b1 : (a1_3 != 1) = false := bne_eq_false_iff_eq.mpr c14; clear c14; obtain rfl := Option.some.inj H
     go_enter Try.func34, Try.ntmps34
     go_wp2_with (first | ((with_reducible refine gate_dst (N := 2) rfl ?_); refine boxK 2 #[.int .i64 a0_0, .int .i64 a0_1, .int .i64 a0_2, .int .i64 a0_3, .int .i64 a0_4, .int .i64 a0_5, .int .i64 a0_6, .string a0_7] 27 ?_; intro gb290 hg w15 hbox hb; have BK290 := sA hbox; have GW290 := bsz HB hg; have GE290 := bsz HB hg; replace HB := bst HB hb; clear hb hbox hg) | ((with_reducible refine gate_dst (N := 3) rfl ?_); refine boxK 3 #[.int .i64 a1_0, .int .i64 a1_1, .int .i64 a1_2, .int .i64 a1_3, .int .i64 a1_4, .string a1_5, .int .i64 a1_6] 32 ?_; intro gb291 hg w16 hbox hb; have BK291 := sA hbox; have GW291 := bsz HB hg; have GE291 := bsz HB hg; have NB290_291 := bnl BK290 hg; have NB291_290 := bng BK290 hg; replace BK290 := sA (blkb BK290.out hb); replace HB := bst HB hb; clear hb hbox hg; have hnb17 := NB291_290.out; have hnc17 := NB290_291.out; obtain ⟨_,_,_,_,_,_,_,_,_,_,_,_,_,_⟩ := cQ7 BK291) | ((with_reducible refine gate_callee (f := 45) rfl ?_); refine goesK (some 6) Try.func45 #[.agg #[.int .i64 a1_0, .int .i64 a1_1, .int .i64 a1_2, .int .i64 a1_3, .int .i64 a1_4, .string a1_5, .int .i64 a1_6]] ?_; (with_reducible refine (signalbenchref07_Valid.calls a1_0 a1_1 a1_2 a1_3 a1_4 a1_5 a1_6 true _ A3.out).mono ?_); rintro e w19 ⟨rfl, hb⟩; refine ⟨_, rfl, ?_⟩; replace BK290 := sA (blkb BK290.out hb); replace BK291 := sA (blkb BK291.out hb); replace HB := bst HB hb; (try clear hb); obtain ⟨_,_,_,_,_,_,_,_,_,_,_,_,_,_⟩ := cQ7 BK291; obtain ⟨_,_,_,_,_,_,_,_,_,_,_,_,_,_,_,_⟩ := cQ8 BK290))
     go_ret
     exact ⟨eW_, hbw HB.out⟩
    ·rw [if_neg c14] at H
     have c14b0 : (a1_3 == 1) = false := beq_eq_false_iff_ne.mpr c14; have c14b1 : (a1_3 != 1) = true := bne_iff_ne.mpr c14; obtain rfl := Option.some.inj H
     go_enter Try.func34, Try.ntmps34
     go_wp2_with (first | ((with_reducible refine gate_dst (N := 2) rfl ?_); refine boxK 2 #[.int .i64 a0_0, .int .i64 a0_1, .int .i64 a0_2, .int .i64 a0_3, .int .i64 a0_4, .int .i64 a0_5, .int .i64 a0_6, .string a0_7] 27 ?_; intro gb290 hg w22 hbox hb; have BK290 := sA hbox; have GW290 := bsz HB hg; have GE290 := bsz HB hg; replace HB := bst HB hb; clear hb hbox hg) | ((with_reducible refine gate_dst (N := 3) rfl ?_); refine boxK 3 #[.int .i64 a1_0, .int .i64 a1_1, .int .i64 a1_2, .int .i64 a1_3, .int .i64 a1_4, .string a1_5, .int .i64 a1_6] 32 ?_; intro gb291 hg w23 hbox hb; have BK291 := sA hbox; have GW291 := bsz HB hg; have GE291 := bsz HB hg; have NB290_291 := bnl BK290 hg; have NB291_290 := bng BK290 hg; replace BK290 := sA (blkb BK290.out hb); replace HB := bst HB hb; clear hb hbox hg; have hnb24 := NB291_290.out; have hnc24 := NB290_291.out; obtain ⟨_,_,_,_,_,_,_,_,_,_,_,_,_,_⟩ := cQ7 BK291) | ((with_reducible refine gate_callee (f := 45) rfl ?_); refine goesK (some 6) Try.func45 #[.agg #[.int .i64 a1_0, .int .i64 a1_1, .int .i64 a1_2, .int .i64 a1_3, .int .i64 a1_4, .string a1_5, .int .i64 a1_6]] ?_; (with_reducible refine (signalbenchref07_Valid.calls a1_0 a1_1 a1_2 a1_3 a1_4 a1_5 a1_6 true _ A3.out).mono ?_); rintro e w26 ⟨rfl, hb⟩; refine ⟨_, rfl, ?_⟩; replace BK290 := sA (blkb BK290.out hb); replace BK291 := sA (blkb BK291.out hb); replace HB := bst HB hb; (try clear hb); obtain ⟨_,_,_,_,_,_,_,_,_,_,_,_,_,_⟩ := cQ7 BK291))
     go_ret
     exact ⟨eW_, hbw HB.out⟩
  ·rw [if_neg c5] at H
   have c5b0 : (a1_0 == 2) = false := beq_eq_false_iff_ne.mpr c5; have c5b1 : (a1_0 != 2) = true := bne_iff_ne.mpr c5; obtain rfl := Option.some.inj H
   go_enter Try.func34, Try.ntmps34
   go_wp2_with (first | ((with_reducible refine gate_dst (N := 2) rfl ?_); refine boxK 2 #[.int .i64 a0_0, .int .i64 a0_1, .int .i64 a0_2, .int .i64 a0_3, .int .i64 a0_4, .int .i64 a0_5, .int .i64 a0_6, .string a0_7] 27 ?_; intro gb290 hg w28 hbox hb; have BK290 := sA hbox; have GW290 := bsz HB hg; have GE290 := bsz HB hg; replace HB := bst HB hb; clear hb hbox hg) | ((with_reducible refine gate_dst (N := 3) rfl ?_); refine boxK 3 #[.int .i64 a1_0, .int .i64 a1_1, .int .i64 a1_2, .int .i64 a1_3, .int .i64 a1_4, .string a1_5, .int .i64 a1_6] 32 ?_; intro gb291 hg w29 hbox hb; have BK291 := sA hbox; have GW291 := bsz HB hg; have GE291 := bsz HB hg; have NB290_291 := bnl BK290 hg; have NB291_290 := bng BK290 hg; replace BK290 := sA (blkb BK290.out hb); replace HB := bst HB hb; clear hb hbox hg; have hnb30 := NB291_290.out; have hnc30 := NB290_291.out; obtain ⟨_,_,_,_,_,_,_,_,_,_,_,_,_,_⟩ := cQ7 BK291) | ((with_reducible refine gate_callee (f := 45) rfl ?_); refine goesK (some 6) Try.func45 #[.agg #[.int .i64 a1_0, .int .i64 a1_1, .int .i64 a1_2, .int .i64 a1_3, .int .i64 a1_4, .string a1_5, .int .i64 a1_6]] ?_; (with_reducible refine (signalbenchref07_Valid.calls a1_0 a1_1 a1_2 a1_3 a1_4 a1_5 a1_6 true _ A3.out).mono ?_); rintro e w32 ⟨rfl, hb⟩; refine ⟨_, rfl, ?_⟩; replace BK290 := sA (blkb BK290.out hb); replace BK291 := sA (blkb BK291.out hb); replace HB := bst HB hb; (try clear hb); obtain ⟨_,_,_,_,_,_,_,_,_,_,_,_,_,_⟩ := cQ7 BK291))
   go_ret
   exact ⟨eW_, hbw HB.out⟩
 ·replace c4 := Bool.eq_false_iff.mpr c4
  subst c4
  have H1 : (some false) = some r := by rw [if_neg (show ¬ (false = true) by decide)] at H; exact H
  clear H; have H := H1; clear H1; obtain rfl := Option.some.inj H
  go_enter Try.func34, Try.ntmps34
  go_wp2_with (first | ((with_reducible refine gate_dst (N := 2) rfl ?_); refine boxK 2 #[.int .i64 a0_0, .int .i64 a0_1, .int .i64 a0_2, .int .i64 a0_3, .int .i64 a0_4, .int .i64 a0_5, .int .i64 a0_6, .string a0_7] 27 ?_; intro gb290 hg w34 hbox hb; have BK290 := sA hbox; have GW290 := bsz HB hg; have GE290 := bsz HB hg; replace HB := bst HB hb; clear hb hbox hg) | ((with_reducible refine gate_dst (N := 3) rfl ?_); refine boxK 3 #[.int .i64 a1_0, .int .i64 a1_1, .int .i64 a1_2, .int .i64 a1_3, .int .i64 a1_4, .string a1_5, .int .i64 a1_6] 32 ?_; intro gb291 hg w35 hbox hb; have BK291 := sA hbox; have GW291 := bsz HB hg; have GE291 := bsz HB hg; have NB290_291 := bnl BK290 hg; have NB291_290 := bng BK290 hg; replace BK290 := sA (blkb BK290.out hb); replace HB := bst HB hb; clear hb hbox hg; have hnb36 := NB291_290.out; have hnc36 := NB290_291.out; obtain ⟨_,_,_,_,_,_,_,_,_,_,_,_,_,_⟩ := cQ7 BK291) | ((with_reducible refine gate_callee (f := 45) rfl ?_); refine goesK (some 6) Try.func45 #[.agg #[.int .i64 a1_0, .int .i64 a1_1, .int .i64 a1_2, .int .i64 a1_3, .int .i64 a1_4, .string a1_5, .int .i64 a1_6]] ?_; (with_reducible refine (signalbenchref07_Valid.calls a1_0 a1_1 a1_2 a1_3 a1_4 a1_5 a1_6 false _ A3.out).mono ?_); rintro e w38 ⟨rfl, hb⟩; refine ⟨_, rfl, ?_⟩; replace BK290 := sA (blkb BK290.out hb); replace BK291 := sA (blkb BK291.out hb); replace HB := bst HB hb; (try clear hb)))
  go_ret
  exact ⟨eW_, hbw HB.out⟩

/-! ### signalbenchref21_again: function 35 -/
def signalbenchref21_again.f (a0_0 : Int) (a0_1 : Int) (a0_2 : Int) (a0_3 : Int) (a0_4 : Int) (a0_5 : Int) (a0_6 : Int) (a0_7 : ByteArray) : Option (Int × Int × Int × Int × Int × Int × Int × ByteArray) := some (0, a0_1, 0, 0, 0, 0, a0_6, (⟨#[]⟩ : ByteArray))
set_option maxHeartbeats 8000000 in
set_option maxRecDepth 100000 in
theorem signalbenchref21_again.calls (a0_0 : Int) (a0_1 : Int) (a0_2 : Int) (a0_3 : Int) (a0_4 : Int) (a0_5 : Int) (a0_6 : Int) (a0_7 : ByteArray) (r1 : Int) (r2 : Int) (r3 : Int) (r4 : Int) (r5 : Int) (r6 : Int) (r7 : Int) (r8 : ByteArray) (w : World) (h : signalbenchref21_again.f a0_0 a0_1 a0_2 a0_3 a0_4 a0_5 a0_6 a0_7 = some (r1, r2, r3, r4, r5, r6, r7, r8)) :
  Calls Try.prog 35 #[.agg #[.int .i64 a0_0, .int .i64 a0_1, .int .i64 a0_2, .int .i64 a0_3, .int .i64 a0_4, .int .i64 a0_5, .int .i64 a0_6, .string a0_7]] w fun e w' => e = .returned (.agg #[.int .i64 r1, .int .i64 r2, .int .i64 r3, .int .i64 r4, .int .i64 r5, .int .i64 r6, .int .i64 r7, .string r8]) ∧ Below w.heap.size w w' := by
 have hu27 := Try.underlying27; have HB := sA (Below.refl w.heap.size w); have H : (some (0, a0_1, 0, 0, 0, 0, a0_6, (⟨#[]⟩ : ByteArray))) = some (r1, r2, r3, r4, r5, r6, r7, r8) := h; clear h
 simp only [Option.some.injEq, Prod.mk.injEq] at H
 obtain ⟨rfl, rfl, rfl, rfl, rfl, rfl, rfl, rfl⟩ := H
 go_enter Try.func35, Try.ntmps35
 go_wp2_with (first | ((with_reducible refine gate_dst (N := 1) rfl ?_); refine boxK 1 #[.int .i64 a0_0, .int .i64 a0_1, .int .i64 a0_2, .int .i64 a0_3, .int .i64 a0_4, .int .i64 a0_5, .int .i64 a0_6, .string a0_7] 27 ?_; intro gb293 hg w2 hbox hb; have BK293 := sA hbox; have GW293 := bsz HB hg; have GE293 := bsz HB hg; replace HB := bst HB hb; clear hb hbox hg) | ((with_reducible refine gate_dst (N := 2) rfl ?_); refine boxK 2 #[.int .i64 0, .int .i64 0, .int .i64 0, .int .i64 0, .int .i64 0, .int .i64 0, .int .i64 0, .string (⟨#[]⟩ : ByteArray)] 27 ?_; intro gb294 hg w3 hbox hb; have BK294 := sA hbox; have GW294 := bsz HB hg; have GE294 := bsz HB hg; have NB293_294 := bnl BK293 hg; have NB294_293 := bng BK293 hg; replace BK293 := sA (blkb BK293.out hb); replace HB := bst HB hb; clear hb hbox hg; have hnb4 := NB293_294.out; have hnc4 := NB294_293.out; obtain ⟨_,_,_,_,_,_,_,_,_,_,_,_,_,_,_,_⟩ := cQ8 BK293; obtain ⟨_,_,_,_,_,_,_,_,_,_,_,_,_,_,_,_⟩ := cQ8 BK294))
 refine bodyPost_ret (results_cell_row rfl _ _ gb294 27 #[.int .i64 0, .int .i64 a0_1, .int .i64 0, .int .i64 0, .int .i64 0, .int .i64 0, .int .i64 a0_6, .string (⟨#[]⟩ : ByteArray)] (0, 0) _ rfl (by (with_reducible repeat (first | refine blk_drewN ?_ _ | refine blk_drew ?_ | refine blk_alloc ?_ _)); refine blk_put8 (.int .i64 0) (.int .i64 0) (.int .i64 0) (.int .i64 0) (.int .i64 0) (.int .i64 0) (.int .i64 0) (.string (⟨#[]⟩ : ByteArray)) ?_; (with_reducible repeat (first | refine blk_drewN ?_ _ | refine blk_drew ?_ | refine blk_alloc ?_ _)); exact BK294.out) Try.underlying27 rfl (by kernel_rfl)) rfl ?_
 exact ⟨eW_, hbw HB.out⟩

/-! ### signalbenchref21_collected: function 36 -/
def signalbenchref21_collected.f (a0_0 : Int) (a0_1 : Int) (a0_2 : Int) (a0_3 : Int) (a0_4 : Int) (a0_5 : Int) (a0_6 : Int) (a0_7 : ByteArray) (a1 : Int) : Option ((List (S32))) := if a0_0 = 0 then (some ([] : List (S32))) else (if a1 < a0_2 then (some (([(⟨5, a0_2, a0_2, 0, 0, (⟨#[]⟩ : ByteArray), 7⟩ : S32)] : List (S32)))) else (some (([(⟨5, a0_2, a1, 0, 0, (⟨#[]⟩ : ByteArray), 7⟩ : S32)] : List (S32)))))
set_option maxHeartbeats 8000000 in
set_option maxRecDepth 100000 in
theorem signalbenchref21_collected.calls (a0_0 : Int) (a0_1 : Int) (a0_2 : Int) (a0_3 : Int) (a0_4 : Int) (a0_5 : Int) (a0_6 : Int) (a0_7 : ByteArray) (a1 : Int) (r : List (S32)) (w : World) (h : signalbenchref21_collected.f a0_0 a0_1 a0_2 a0_3 a0_4 a0_5 a0_6 a0_7 a1 = some r) :
  Calls Try.prog 36 #[.agg #[.int .i64 a0_0, .int .i64 a0_1, .int .i64 a0_2, .int .i64 a0_3, .int .i64 a0_4, .int .i64 a0_5, .int .i64 a0_6, .string a0_7], .int .i64 a1] w fun e w' => ∃ v0_ : Value, e = .returned (v0_) ∧ Kd.R k32 32 w' w.heap.size (fun _ => True) v0_ r ∧ Below w.heap.size w w' := by
 have hu27 := Try.underlying27; have hu32 := Try.underlying32; have HB := sA (Below.refl w.heap.size w); have H : (if a0_0 = 0 then (some ([] : List (S32))) else (if a1 < a0_2 then (some (([(⟨5, a0_2, a0_2, 0, 0, (⟨#[]⟩ : ByteArray), 7⟩ : S32)] : List (S32)))) else (some (([(⟨5, a0_2, a1, 0, 0, (⟨#[]⟩ : ByteArray), 7⟩ : S32)] : List (S32)))))) = some r := h; clear h
 by_cases c3 : a0_0 = 0
 ·rw [if_pos c3] at H
  have c3b0 : (a0_0 == 0) = true := beq_iff_eq.mpr c3; have c3b1 : (a0_0 != 0) = false := bne_eq_false_iff_eq.mpr c3; clear c3; obtain rfl := Option.some.inj H
  go_enter Try.func36, Try.ntmps36
  go_wp2_with (first | ((with_reducible refine gate_dst (N := 2) rfl ?_); refine boxK 2 #[.int .i64 a0_0, .int .i64 a0_1, .int .i64 a0_2, .int .i64 a0_3, .int .i64 a0_4, .int .i64 a0_5, .int .i64 a0_6, .string a0_7] 27 ?_; intro gb295 hg w4 hbox hb; have BK295 := sA hbox; have GW295 := bsz HB hg; have GE295 := bsz HB hg; replace HB := bst HB hb; clear hb hbox hg; obtain ⟨_,_,_,_,_,_,_,_,_,_,_,_,_,_,_,_⟩ := cQ8 BK295))
  go_ret
  exact ⟨_, eW_, by first | exact Kd.R_nil _ _ _ _ _ | exact Kd.N_nil _ _ _ _ _ | exact Kd.V_nil _ _ _ _ _ | exact Kd.Q_nil _ _ _ _ _ | exact Kd.S_nil _ _ _ _ _, hbw HB.out⟩
 ·rw [if_neg c3] at H
  have c3b0 : (a0_0 == 0) = false := beq_eq_false_iff_ne.mpr c3; have c3b1 : (a0_0 != 0) = true := bne_iff_ne.mpr c3
  by_cases c6 : a1 < a0_2
  ·rw [if_pos c6] at H
   have c6b0 : decide (a1 < a0_2) = true := decide_eq_true c6; clear c6; obtain ⟨y296, hy296⟩ : ∃ y_ : List (S32), y_ = (([(⟨5, a0_2, a0_2, 0, 0, (⟨#[]⟩ : ByteArray), 7⟩ : S32)] : List (S32))) := ⟨_, rfl⟩
   replace H : (some y296) = some r := by first | (rw [hy296]; with_reducible exact H) | (have H2_ := (Option.bind_some _ _).symm.trans H; rw [hy296]; with_reducible exact H2_) | (have H2_ := (Option.bind_some _ _).symm.trans H; with_reducible exact H2_) | with_reducible exact H | (rw [hy296]; exact H) | exact H
   have Ny296 := sA hy296; clear hy296; obtain rfl := Option.some.inj H
   go_enter Try.func36, Try.ntmps36
   go_wp2_with (first | ((with_reducible refine gate_dst (N := 2) rfl ?_); refine boxK 2 #[.int .i64 a0_0, .int .i64 a0_1, .int .i64 a0_2, .int .i64 a0_3, .int .i64 a0_4, .int .i64 a0_5, .int .i64 a0_6, .string a0_7] 27 ?_; intro gb295 hg w7 hbox hb; have BK295 := sA hbox; have GW295 := bsz HB hg; have GE295 := bsz HB hg; replace HB := bst HB hb; clear hb hbox hg; obtain ⟨_,_,_,_,_,_,_,_,_,_,_,_,_,_,_,_⟩ := cQ8 BK295) | ((with_reducible refine gate_dst (N := 18) rfl ?_); refine Kd.R_lit k32 _ 32 ?hg (N := 18) ?hd (xs := ([(⟨5, a0_2, a0_2, 0, 0, (⟨#[]⟩ : ByteArray), 7⟩ : S32)] : List (S32))) (inner := [.int .i64 5, .int .i64 a0_2, .int .i64 a0_2, .int .i64 0, .int .i64 0, .string (⟨#[]⟩ : ByteArray), .int .i64 7]) (ok := fun _ => True) (okp := fun _ => True) ?hr ?hp (fun _ hk => hk) trivial (Below.refl _ _) (Nat.le_refl _) (by simp) ?_; (case hd => rfl); (case hg => rfl); (case hr => first | (go_simp; done) | (go_simp; rfl)); (case hp => exact (Reps.c7 (show Kd.M k32 _ _ _ (⟨5, a0_2, a0_2, 0, 0, (⟨#[]⟩ : ByteArray), 7⟩ : S32) [.int .i64 5, .int .i64 a0_2, .int .i64 a0_2, .int .i64 0, .int .i64 0, .string (⟨#[]⟩ : ByteArray), .int .i64 7] from (k32_mkM _ _ _ (⟨5, a0_2, a0_2, 0, 0, (⟨#[]⟩ : ByteArray), 7⟩ : S32) )) (Reps.none _ _))); intro v297 w9 ho10 hb hg_ hnew_; clear hg_ hnew_; (first | rw [← Ny296.out] at ho10 | (simp only [Int.reduceToNat] at ho10; rw [← Ny296.out] at ho10)); have HO298 := sA (Kd.R_lower ho10 (below_size (hbw HB.out))); replace BK295 := sA (blkb BK295.out hb); replace HB := bst HB hb; clear hb ho10))
   go_ret
   exact ⟨_, eW_, by (with_reducible repeat (first | apply Kd.R_alloc | apply Kd.R_drewN | apply Kd.R_drew)); exact HO298.out, hbw HB.out⟩
  ·rw [if_neg c6] at H
   have c6b0 : decide (a1 < a0_2) = false := decide_eq_false c6; clear c6; obtain ⟨y299, hy299⟩ : ∃ y_ : List (S32), y_ = (([(⟨5, a0_2, a1, 0, 0, (⟨#[]⟩ : ByteArray), 7⟩ : S32)] : List (S32))) := ⟨_, rfl⟩
   replace H : (some y299) = some r := by first | (rw [hy299]; with_reducible exact H) | (have H2_ := (Option.bind_some _ _).symm.trans H; rw [hy299]; with_reducible exact H2_) | (have H2_ := (Option.bind_some _ _).symm.trans H; with_reducible exact H2_) | with_reducible exact H | (rw [hy299]; exact H) | exact H
   have Ny299 := sA hy299; clear hy299; obtain rfl := Option.some.inj H
   go_enter Try.func36, Try.ntmps36
   go_wp2_with (first | ((with_reducible refine gate_dst (N := 2) rfl ?_); refine boxK 2 #[.int .i64 a0_0, .int .i64 a0_1, .int .i64 a0_2, .int .i64 a0_3, .int .i64 a0_4, .int .i64 a0_5, .int .i64 a0_6, .string a0_7] 27 ?_; intro gb295 hg w11 hbox hb; have BK295 := sA hbox; have GW295 := bsz HB hg; have GE295 := bsz HB hg; replace HB := bst HB hb; clear hb hbox hg; obtain ⟨_,_,_,_,_,_,_,_,_,_,_,_,_,_,_,_⟩ := cQ8 BK295) | ((with_reducible refine gate_dst (N := 18) rfl ?_); refine Kd.R_lit k32 _ 32 ?hg (N := 18) ?hd (xs := ([(⟨5, a0_2, a1, 0, 0, (⟨#[]⟩ : ByteArray), 7⟩ : S32)] : List (S32))) (inner := [.int .i64 5, .int .i64 a0_2, .int .i64 a1, .int .i64 0, .int .i64 0, .string (⟨#[]⟩ : ByteArray), .int .i64 7]) (ok := fun _ => True) (okp := fun _ => True) ?hr ?hp (fun _ hk => hk) trivial (Below.refl _ _) (Nat.le_refl _) (by simp) ?_; (case hd => rfl); (case hg => rfl); (case hr => first | (go_simp; done) | (go_simp; rfl)); (case hp => exact (Reps.c7 (show Kd.M k32 _ _ _ (⟨5, a0_2, a1, 0, 0, (⟨#[]⟩ : ByteArray), 7⟩ : S32) [.int .i64 5, .int .i64 a0_2, .int .i64 a1, .int .i64 0, .int .i64 0, .string (⟨#[]⟩ : ByteArray), .int .i64 7] from (k32_mkM _ _ _ (⟨5, a0_2, a1, 0, 0, (⟨#[]⟩ : ByteArray), 7⟩ : S32) )) (Reps.none _ _))); intro v300 w13 ho14 hb hg_ hnew_; clear hg_ hnew_; (first | rw [← Ny299.out] at ho14 | (simp only [Int.reduceToNat] at ho14; rw [← Ny299.out] at ho14)); have HO301 := sA (Kd.R_lower ho14 (below_size (hbw HB.out))); replace BK295 := sA (blkb BK295.out hb); replace HB := bst HB hb; clear hb ho14))
   go_ret
   exact ⟨_, eW_, by (with_reducible repeat (first | apply Kd.R_alloc | apply Kd.R_drewN | apply Kd.R_drew)); exact HO301.out, hbw HB.out⟩

/-! ### signalbenchref21_pack: function 46 -/
def signalbenchref21_pack.l0 : Nat → Int → List Int → Int → Option (ByteArray)
 | 0, _, _, _ => none
 | k + 1, x0, x3, x4 => if x4 ≥ 0 then (if 0 ≤ (wrap64 (8 * x4)) then (if x3.length < 140737488355328 then (signalbenchref21_pack.l0 k x0 (x3 ++ [(shr .i64 x0 (wrap64 (8 * x4))) % 256]) (wrap64 (x4 - 1))) else (none)) else (none)) else (some (strOfNums x3))
def signalbenchref21_pack.f (k : Nat) (a0 : Int) : Option (ByteArray) := signalbenchref21_pack.l0 k a0 (([] : List Int)) 5
theorem signalbenchref21_pack.mono_l : ∀ k, (∀ y0 y1 y2, LeO (signalbenchref21_pack.l0 k y0 y1 y2) (signalbenchref21_pack.l0 (k + 1) y0 y1 y2))
 | 0 => fun _ _ _ r h => by simp [signalbenchref21_pack.l0] at h
 | k + 1 => by
  have ih0 := signalbenchref21_pack.mono_l k
  ·intro y0 y1 y2
   unfold signalbenchref21_pack.l0
   repeat' first
   | (with_reducible exact ih0 _ _ _)
   | (with_reducible exact LeO.refl _)
   | (with_reducible exact LeO.none _)
   | (with_reducible refine LeO.ite ?_ ?_)
   | (with_reducible refine LeO.bind ?_ (fun _ => ?_))
   | exact ih0 _ _ _
   | exact LeO.none _
   | refine LeO.ite ?_ ?_
   | refine LeO.bind ?_ (fun _ => ?_)
theorem signalbenchref21_pack.mono : ∀ a0 k, LeO (signalbenchref21_pack.f k a0) (signalbenchref21_pack.f (k + 1) a0) := by
 intro a0 k; have ih0 := signalbenchref21_pack.mono_l k
 unfold signalbenchref21_pack.f
 repeat' first
   | (with_reducible exact ih0 _ _ _)
   | (with_reducible exact LeO.refl _)
   | (with_reducible exact LeO.none _)
   | (with_reducible refine LeO.ite ?_ ?_)
   | (with_reducible refine LeO.bind ?_ (fun _ => ?_))
   | exact ih0 _ _ _
   | exact LeO.none _
   | refine LeO.ite ?_ ?_
   | refine LeO.bind ?_ (fun _ => ?_)
set_option maxHeartbeats 8000000 in
set_option maxRecDepth 100000 in
theorem signalbenchref21_pack.calls (k : Nat) (a0 : Int) (r : ByteArray) (w : World) (h : signalbenchref21_pack.f k a0 = some r) :
  Calls Try.prog 46 #[.int .i64 a0] w fun e w' => e = .returned (.string r) ∧ Below w.heap.size w w' := by
 have HB := sA (Below.refl w.heap.size w); have H : (signalbenchref21_pack.l0 k a0 (([] : List Int)) 5) = some r := h; clear h; obtain ⟨y302, hy302⟩ : ∃ y_ : List Int, y_ = (([] : List Int)) := ⟨_, rfl⟩
 replace H : (signalbenchref21_pack.l0 k a0 y302 5) = some r := by first | (rw [hy302]; with_reducible exact H) | (have H2_ := (Option.bind_some _ _).symm.trans H; rw [hy302]; with_reducible exact H2_) | (have H2_ := (Option.bind_some _ _).symm.trans H; with_reducible exact H2_) | with_reducible exact H | (rw [hy302]; exact H) | exact H
 have Ny302 := sA hy302; clear hy302; have H' := sA H; clear H
 go_enter Try.func46, Try.ntmps46
 go_wp2_with (first | ((with_reducible refine gate_dst (N := 5) rfl ?_); refine Kd.R_lit (Kd.int .u8) _ 5 ?hg (N := 5) ?hd (xs := ([] : List Int)) (inner := []) (ok := fun _ => True) (okp := fun _ => True) ?hr ?hp (fun _ hk => hk) trivial (Below.refl _ _) (Nat.le_refl _) (by simp) ?_; (case hd => rfl); (case hg => rfl); (case hr => first | (go_simp; done) | (go_simp; rfl)); (case hp => exact (Reps.none _ _)); intro v303 w2 ho3 hb hg_ hnew_; clear hg_ hnew_; (first | rw [← Ny302.out] at ho3 | (simp only [Int.reduceToNat] at ho3; rw [← Ny302.out] at ho3)); have HO304 := sA (Kd.R_lower ho3 (below_size (hbw HB.out))); replace HB := bst HB hb; clear hb ho3))
 go_loopg [3, 4] k (fun kq v3 v4 w' => ∃ (x3_1 : List Int) (x4_1 : Int), v4 = .int .i64 x4_1 ∧ Aside0 (signalbenchref21_pack.l0 kq a0 x3_1 x4_1 = some r) ∧ Aside0 (kq ≤ k) ∧ Aside0 (Kd.R (Kd.int .u8) 5 w' w.heap.size (fun _ => True) v3 x3_1) ∧ Aside0 (Below w.heap.size w w'))
 case atStart => exact ⟨(y302), (5), (by first | rfl | (simp; done) | (simp [*]; done)), H', ⟨Nat.le_refl _⟩, ⟨by (with_reducible repeat (first | apply Kd.R_alloc | apply Kd.R_drewN | apply Kd.R_drew)); exact HO304.out⟩, ⟨hbw HB.out⟩⟩
 case round =>
  clear H'
  obtain ⟨x3_1, x4_1, rfl, HA, HK1, HO_3, HB⟩ := hrel
  cases gk with
  | zero => exact absurd HA.out (by simp [signalbenchref21_pack.l0])
  | succ k1 =>
   have H := HA.out; clear HA
   simp only [signalbenchref21_pack.l0] at H
   by_cases c4 : x4_1 ≥ 0
   ·rw [if_pos c4] at H
    have c4b0 : decide (0 ≤ x4_1) = true := decide_eq_true c4; clear c4; obtain ⟨ji5, hji5⟩ : ∃ j_ : Int, (wrap64 (8 * x4_1)) = j_ := ⟨_, rfl⟩
    replace H : (if 0 ≤ (ji5) then (if x3_1.length < 140737488355328 then (signalbenchref21_pack.l0 k1 a0 (x3_1 ++ [(shr .i64 a0 (ji5)) % 256]) (wrap64 (x4_1 - 1))) else (none)) else (none)) = some r := by first | (rw [hji5] at H; exact H) | (simp only [hji5] at H ⊢; exact H)
    have hji5w : (IntKind.i64.wrap (8 * x4_1)) = ji5 := (i64_w _).trans hji5
    by_cases c6 : 0 ≤ (ji5)
    ·rw [if_pos c6] at H
     have c6b0 := eq_true c6; have c6b1 : decide (0 ≤ (ji5)) = true := decide_eq_true c6; clear c6; obtain ⟨ji7, hji7⟩ : ∃ j_ : Int, (shr .i64 a0 (ji5)) = j_ := ⟨_, rfl⟩
     replace H : (if x3_1.length < 140737488355328 then (signalbenchref21_pack.l0 k1 a0 (x3_1 ++ [(ji7) % 256]) (wrap64 (x4_1 - 1))) else (none)) = some r := by first | (rw [hji7] at H; exact H) | (simp only [hji7] at H ⊢; exact H)
     have hji7_ : (a0 / 2 ^ min (ji5).toNat 64) = ji7 := hji7; have hji7z : (ji5) ≤ 64 → (a0 / 2 ^ (ji5).toNat) = ji7 := shr_small hji7
     by_cases c8 : x3_1.length < 140737488355328
     ·rw [if_pos c8] at H
      have LMc8 := sA c8; clear c8; obtain ⟨y305, hy305⟩ : ∃ y_ : List Int, y_ = (x3_1 ++ [(ji7) % 256]) := ⟨_, rfl⟩
      replace H : (signalbenchref21_pack.l0 k1 a0 y305 (wrap64 (x4_1 - 1))) = some r := by first | (rw [hy305]; with_reducible exact H) | (have H2_ := (Option.bind_some _ _).symm.trans H; rw [hy305]; with_reducible exact H2_) | (have H2_ := (Option.bind_some _ _).symm.trans H; with_reducible exact H2_) | with_reducible exact H | (rw [hy305]; exact H) | exact H
      have Ny305 := sA hy305; clear hy305; have H' := sA H; clear H
      go_wp2_with (first | ((with_reducible refine gate_builtin (b := .append) (xs := #[.tmp 10, .tmp 16]) rfl ?_); at_builtin; refine Kd.R_append (Kd.int .u8) (w0 := w) w.heap.size rfl (.tmp 10) (.tmp 16) 53 5 (.int .u8 0) 1 rfl Try.underlying53 info5 rfl (by decide) (by omega) u3 x3_1 ((ji7) % 256) [.int .u8 ((ji7) % 256)] (fun _ => True) (fun _ => False) rfl rfl ?aP (fun _ hk => hk.elim) ?aF ?aO ?aB ?aS ?aL ?_; (case aP => exact rfl); (case aB => exact (hbw HB.out)); (case aF => exact (fun _ _ => trivial)); (case aO => exact (rkw HO_3.out)); (case aS => exact (below_size (hbw HB.out))); (case aL => have := LMc8.out; omega); intro v306 w9 ho hb hg hat; rw [← Ny305.out] at ho; have n0_ := sA (hb); have n1_ := sA (ho); clear HB; clear HO_3; have HB := n0_; have HO307 := n1_; clear n0_ n1_; clear ho hb hg hat))
      go_roundg k1
      case measure => have := HK1.out; omega
      case rel => exact ⟨(y305), (wrap64 (x4_1 - 1)), (by first | rfl | (simp; done) | (simp [*]; done)), H', ⟨by have := HK1.out; omega⟩, ⟨by (with_reducible repeat (first | apply Kd.R_alloc | apply Kd.R_drewN | apply Kd.R_drew)); exact HO307.out⟩, ⟨hbw HB.out⟩⟩
     ·rw [if_neg c8] at H
      exact absurd H (by simp)
    ·rw [if_neg c6] at H
     exact absurd H (by simp)
   ·rw [if_neg c4] at H
    have c4b0 : decide (0 ≤ x4_1) = false := decide_eq_false c4; clear c4; obtain rfl := Option.some.inj H; have hcv10 := own_string (P := Try.prog) Try.underlying53 Try.underlying5 Try.underlying9 (Kd.own_of_R HO_3.out)
    go_wp2
    go_ret
    exact ⟨eW_, hbw HB.out⟩

/-! ### signalbenchref21_word: function 47 -/
def signalbenchref21_word.l0 : Nat → ByteArray → List Int → Int → Option (ByteArray)
 | 0, _, _, _ => none
 | k + 1, x0, x3, x4 => if (wrap64 (x4 + 7)) ≤ (x0.size : Int) then (if 0 ≤ x4 then (if x4 < (x0.size : Int) then (if x3.length < 140737488355328 then (signalbenchref21_word.l0 k x0 (x3 ++ [bt x0 x4]) (wrap64 (x4 + 7))) else (none)) else (none)) else (none)) else (some (strOfNums x3))
def signalbenchref21_word.f (k : Nat) (a0 : ByteArray) : Option (ByteArray) := signalbenchref21_word.l0 k a0 (([] : List Int)) 0
theorem signalbenchref21_word.mono_l : ∀ k, (∀ y0 y1 y2, LeO (signalbenchref21_word.l0 k y0 y1 y2) (signalbenchref21_word.l0 (k + 1) y0 y1 y2))
 | 0 => fun _ _ _ r h => by simp [signalbenchref21_word.l0] at h
 | k + 1 => by
  have ih0 := signalbenchref21_word.mono_l k
  ·intro y0 y1 y2
   unfold signalbenchref21_word.l0
   repeat' first
   | (with_reducible exact ih0 _ _ _)
   | (with_reducible exact LeO.refl _)
   | (with_reducible exact LeO.none _)
   | (with_reducible refine LeO.ite ?_ ?_)
   | (with_reducible refine LeO.bind ?_ (fun _ => ?_))
   | exact ih0 _ _ _
   | exact LeO.none _
   | refine LeO.ite ?_ ?_
   | refine LeO.bind ?_ (fun _ => ?_)
theorem signalbenchref21_word.mono : ∀ a0 k, LeO (signalbenchref21_word.f k a0) (signalbenchref21_word.f (k + 1) a0) := by
 intro a0 k; have ih0 := signalbenchref21_word.mono_l k
 unfold signalbenchref21_word.f
 repeat' first
   | (with_reducible exact ih0 _ _ _)
   | (with_reducible exact LeO.refl _)
   | (with_reducible exact LeO.none _)
   | (with_reducible refine LeO.ite ?_ ?_)
   | (with_reducible refine LeO.bind ?_ (fun _ => ?_))
   | exact ih0 _ _ _
   | exact LeO.none _
   | refine LeO.ite ?_ ?_
   | refine LeO.bind ?_ (fun _ => ?_)
set_option maxHeartbeats 8000000 in
set_option maxRecDepth 100000 in
theorem signalbenchref21_word.calls (k : Nat) (a0 : ByteArray) (r : ByteArray) (w : World) (h : signalbenchref21_word.f k a0 = some r) :
  Calls Try.prog 47 #[.string a0] w fun e w' => e = .returned (.string r) ∧ Below w.heap.size w w' := by
 have HB := sA (Below.refl w.heap.size w); have H : (signalbenchref21_word.l0 k a0 (([] : List Int)) 0) = some r := h; clear h; obtain ⟨y308, hy308⟩ : ∃ y_ : List Int, y_ = (([] : List Int)) := ⟨_, rfl⟩
 replace H : (signalbenchref21_word.l0 k a0 y308 0) = some r := by first | (rw [hy308]; with_reducible exact H) | (have H2_ := (Option.bind_some _ _).symm.trans H; rw [hy308]; with_reducible exact H2_) | (have H2_ := (Option.bind_some _ _).symm.trans H; with_reducible exact H2_) | with_reducible exact H | (rw [hy308]; exact H) | exact H
 have Ny308 := sA hy308; clear hy308; have H' := sA H; clear H
 go_enter Try.func47, Try.ntmps47
 go_wp2_with (first | ((with_reducible refine gate_dst (N := 5) rfl ?_); refine Kd.R_lit (Kd.int .u8) _ 5 ?hg (N := 5) ?hd (xs := ([] : List Int)) (inner := []) (ok := fun _ => True) (okp := fun _ => True) ?hr ?hp (fun _ hk => hk) trivial (Below.refl _ _) (Nat.le_refl _) (by simp) ?_; (case hd => rfl); (case hg => rfl); (case hr => first | (go_simp; done) | (go_simp; rfl)); (case hp => exact (Reps.none _ _)); intro v309 w2 ho3 hb hg_ hnew_; clear hg_ hnew_; (first | rw [← Ny308.out] at ho3 | (simp only [Int.reduceToNat] at ho3; rw [← Ny308.out] at ho3)); have HO310 := sA (Kd.R_lower ho3 (below_size (hbw HB.out))); replace HB := bst HB hb; clear hb ho3))
 go_loopg [3, 4] k (fun kq v3 v4 w' => ∃ (x3_1 : List Int) (x4_1 : Int), v4 = .int .i64 x4_1 ∧ Aside0 (signalbenchref21_word.l0 kq a0 x3_1 x4_1 = some r) ∧ Aside0 (kq ≤ k) ∧ Aside0 (Kd.R (Kd.int .u8) 5 w' w.heap.size (fun _ => True) v3 x3_1) ∧ Aside0 (Below w.heap.size w w'))
 case atStart => exact ⟨(y308), (0), (by first | rfl | (simp; done) | (simp [*]; done)), H', ⟨Nat.le_refl _⟩, ⟨by (with_reducible repeat (first | apply Kd.R_alloc | apply Kd.R_drewN | apply Kd.R_drew)); exact HO310.out⟩, ⟨hbw HB.out⟩⟩
 case round =>
  clear H'
  obtain ⟨x3_1, x4_1, rfl, HA, HK1, HO_3, HB⟩ := hrel
  cases gk with
  | zero => exact absurd HA.out (by simp [signalbenchref21_word.l0])
  | succ k1 =>
   have H := HA.out; clear HA
   simp only [signalbenchref21_word.l0] at H
   by_cases c4 : (wrap64 (x4_1 + 7)) ≤ (a0.size : Int)
   ·rw [if_pos c4] at H
    have c4b0 : decide ((wrap64 (x4_1 + 7)) ≤ (a0.size : Int)) = true := decide_eq_true c4; clear c4
    by_cases c5 : 0 ≤ x4_1
    ·rw [if_pos c5] at H
     have c5b0 : decide (0 ≤ x4_1) = true := decide_eq_true c5; clear c5
     by_cases c6 : x4_1 < (a0.size : Int)
     ·rw [if_pos c6] at H
      have c6b0 : decide (x4_1 < (a0.size : Int)) = true := decide_eq_true c6; clear c6
      by_cases c8 : x3_1.length < 140737488355328
      ·rw [if_pos c8] at H
       have LMc8 := sA c8; clear c8; obtain ⟨y311, hy311⟩ : ∃ y_ : List Int, y_ = (x3_1 ++ [bt a0 x4_1]) := ⟨_, rfl⟩
       replace H : (signalbenchref21_word.l0 k1 a0 y311 (wrap64 (x4_1 + 7))) = some r := by first | (rw [hy311]; with_reducible exact H) | (have H2_ := (Option.bind_some _ _).symm.trans H; rw [hy311]; with_reducible exact H2_) | (have H2_ := (Option.bind_some _ _).symm.trans H; with_reducible exact H2_) | with_reducible exact H | (rw [hy311]; exact H) | exact H
       have Ny311 := sA hy311; clear hy311; have H' := sA H; clear H; have p7 : 0 ≤ (x4_1 : Int) := of_decide_eq_true (by first | (with_reducible assumption) | assumption); have q7 : x4_1 < (a0.size : Int) := of_decide_eq_true (by first | (with_reducible assumption) | assumption); have hx7 := bt_at a0 x4_1; replace p7 := eq_true p7; replace q7 := eq_true q7
       go_wp2_with (first | ((with_reducible refine gate_builtin (b := .append) (xs := #[.tmp 13, .tmp 17]) rfl ?_); at_builtin; refine Kd.R_append (Kd.int .u8) (w0 := w) w.heap.size rfl (.tmp 13) (.tmp 17) 53 5 (.int .u8 0) 1 rfl Try.underlying53 info5 rfl (by decide) (by omega) u3 x3_1 (bt a0 x4_1) [.int .u8 (bt a0 x4_1)] (fun _ => True) (fun _ => False) rfl rfl ?aP (fun _ hk => hk.elim) ?aF ?aO ?aB ?aS ?aL ?_; (case aP => exact rfl); (case aB => exact (hbw HB.out)); (case aF => exact (fun _ _ => trivial)); (case aO => exact (rkw HO_3.out)); (case aS => exact (below_size (hbw HB.out))); (case aL => have := LMc8.out; omega); intro v312 w9 ho hb hg hat; rw [← Ny311.out] at ho; have n0_ := sA (hb); have n1_ := sA (ho); clear HB; clear HO_3; have HB := n0_; have HO313 := n1_; clear n0_ n1_; clear ho hb hg hat))
       go_roundg k1
       case measure => have := HK1.out; omega
       case rel => exact ⟨(y311), (wrap64 (x4_1 + 7)), (by first | rfl | (simp; done) | (simp [*]; done)), H', ⟨by have := HK1.out; omega⟩, ⟨by (with_reducible repeat (first | apply Kd.R_alloc | apply Kd.R_drewN | apply Kd.R_drew)); exact HO313.out⟩, ⟨hbw HB.out⟩⟩
      ·rw [if_neg c8] at H
       exact absurd H (by simp)
     ·rw [if_neg c6] at H
      exact absurd H (by simp)
    ·rw [if_neg c5] at H
     exact absurd H (by simp)
   ·rw [if_neg c4] at H
    have c4b0 : decide ((wrap64 (x4_1 + 7)) ≤ (a0.size : Int)) = false := decide_eq_false c4; clear c4; obtain rfl := Option.some.inj H; have hcv10 := own_string (P := Try.prog) Try.underlying53 Try.underlying5 Try.underlying9 (Kd.own_of_R HO_3.out)
    go_wp2
    go_ret
    exact ⟨eW_, hbw HB.out⟩

/-! ### signalbenchref21_unpack: function 48 -/
def signalbenchref21_unpack.l0 : Nat → ByteArray → Int → Int → Option (Int)
 | 0, _, _, _ => none
 | k + 1, x0, x3, x4 => if x4 < 6 then (if 0 ≤ x4 then (if x4 < (x0.size : Int) then (signalbenchref21_unpack.l0 k x0 (wrap64 ((wrap64 (256 * x3)) + (wrap64 (bt x0 x4)))) (wrap64 (x4 + 1))) else (none)) else (none)) else (some x3)
def signalbenchref21_unpack.f (k : Nat) (a0 : ByteArray) : Option (Int) := signalbenchref21_unpack.l0 k a0 0 0
theorem signalbenchref21_unpack.mono_l : ∀ k, (∀ y0 y1 y2, LeO (signalbenchref21_unpack.l0 k y0 y1 y2) (signalbenchref21_unpack.l0 (k + 1) y0 y1 y2))
 | 0 => fun _ _ _ r h => by simp [signalbenchref21_unpack.l0] at h
 | k + 1 => by
  have ih0 := signalbenchref21_unpack.mono_l k
  ·intro y0 y1 y2
   unfold signalbenchref21_unpack.l0
   repeat' first
   | (with_reducible exact ih0 _ _ _)
   | (with_reducible exact LeO.refl _)
   | (with_reducible exact LeO.none _)
   | (with_reducible refine LeO.ite ?_ ?_)
   | (with_reducible refine LeO.bind ?_ (fun _ => ?_))
   | exact ih0 _ _ _
   | exact LeO.none _
   | refine LeO.ite ?_ ?_
   | refine LeO.bind ?_ (fun _ => ?_)
theorem signalbenchref21_unpack.mono : ∀ a0 k, LeO (signalbenchref21_unpack.f k a0) (signalbenchref21_unpack.f (k + 1) a0) := by
 intro a0 k; have ih0 := signalbenchref21_unpack.mono_l k
 unfold signalbenchref21_unpack.f
 repeat' first
   | (with_reducible exact ih0 _ _ _)
   | (with_reducible exact LeO.refl _)
   | (with_reducible exact LeO.none _)
   | (with_reducible refine LeO.ite ?_ ?_)
   | (with_reducible refine LeO.bind ?_ (fun _ => ?_))
   | exact ih0 _ _ _
   | exact LeO.none _
   | refine LeO.ite ?_ ?_
   | refine LeO.bind ?_ (fun _ => ?_)
set_option maxHeartbeats 8000000 in
set_option maxRecDepth 100000 in
theorem signalbenchref21_unpack.calls (k : Nat) (a0 : ByteArray) (r : Int) (w : World) (h : signalbenchref21_unpack.f k a0 = some r) :
  Calls Try.prog 48 #[.string a0] w fun e w' => e = .returned (.int .i64 r) ∧ Drawn0 w w' := by
 have H : (signalbenchref21_unpack.l0 k a0 0 0) = some r := h; clear h; have H' := sA H; clear H
 go_enter Try.func48, Try.ntmps48
 go_wp2
 go_loopg [3, 4] k (fun kq v3 v4 w' => ∃ (x3_1 : Int) (x4_1 : Int), v3 = .int .i64 x3_1 ∧ v4 = .int .i64 x4_1 ∧ Aside0 (signalbenchref21_unpack.l0 kq a0 x3_1 x4_1 = some r) ∧ Aside0 (kq ≤ k) ∧ Drawn0 w w')
 case atStart => exact ⟨(0), (0), (by first | rfl | (simp; done) | (simp [*]; done)), (by first | rfl | (simp; done) | (simp [*]; done)), H', ⟨Nat.le_refl _⟩, by repeat (first | exact Drawn0.refl _ | apply Drawn0.step)⟩
 case round =>
  clear H'; obtain ⟨x3_1, x4_1, rfl, rfl, HA, HK1, ⟨m1, rfl⟩⟩ := hrel
  cases gk with
  | zero => exact absurd HA.out (by simp [signalbenchref21_unpack.l0])
  | succ k1 =>
   have H := HA.out; clear HA
   simp only [signalbenchref21_unpack.l0] at H
   by_cases c2 : x4_1 < 6
   ·rw [if_pos c2] at H
    have c2b0 : decide (x4_1 < 6) = true := decide_eq_true c2; clear c2
    by_cases c3 : 0 ≤ x4_1
    ·rw [if_pos c3] at H
     have c3b0 : decide (0 ≤ x4_1) = true := decide_eq_true c3; clear c3
     by_cases c4 : x4_1 < (a0.size : Int)
     ·rw [if_pos c4] at H
      have c4b0 : decide (x4_1 < (a0.size : Int)) = true := decide_eq_true c4; clear c4; have H' := sA H; clear H; have p5 : 0 ≤ (x4_1 : Int) := of_decide_eq_true (by first | (with_reducible assumption) | assumption); have q5 : x4_1 < (a0.size : Int) := of_decide_eq_true (by first | (with_reducible assumption) | assumption); have hx5 := bt_at a0 x4_1; replace p5 := eq_true p5; replace q5 := eq_true q5
      go_wp2
      go_roundg k1
      case measure => have := HK1.out; omega
      case rel => exact ⟨(wrap64 ((wrap64 (256 * x3_1)) + (wrap64 (bt a0 x4_1)))), (wrap64 (x4_1 + 1)), (by first | rfl | (simp; done) | (simp [*]; done)), (by first | rfl | (simp; done) | (simp [*]; done)), H', ⟨by have := HK1.out; omega⟩, by repeat (first | exact Drawn0.refl _ | apply Drawn0.step)⟩
     ·rw [if_neg c4] at H
      exact absurd H (by simp)
    ·rw [if_neg c3] at H
     exact absurd H (by simp)
   ·rw [if_neg c2] at H
    have c2b0 : decide (x4_1 < 6) = false := decide_eq_false c2; clear c2; obtain rfl := Option.some.inj H
    go_wp2
    go_ret
    exact ⟨by first | rfl | (simp; done) | (simp [*]; done), by repeat (first | exact Drawn0.refl _ | apply Drawn0.step)⟩

end Go.Proofs.Ytbggkaofkohecaa.PSyncDecodes
