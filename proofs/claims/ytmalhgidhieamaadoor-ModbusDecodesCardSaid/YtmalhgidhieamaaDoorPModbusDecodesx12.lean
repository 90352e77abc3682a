-- Written by a program of this session (wip/tools/pr.py), which calls the kit's print with changes of its own.
import Derived.Test.YtmalhgidhieamaaDoorPModbusDecodesx0
import Derived.Test.YtmalhgidhieamaaDoorPModbusDecodesx11
namespace Go.Proofs.YtmalhgidhieamaaDoor.PModbusDecodes
open Go.RowKit Go.Proofs.YtmalhgidhieamaaDoorW.PrintWords Go.Proofs.YtmalhgidhieamaaDoorW.PrintLast Go.Proofs.YtmalhgidhieamaaDoorW.PrintMore
attribute [local go_sem] max2_int min2_int max_two min_two max_three min_three max_four min_four   -- for this text's walks alone
set_option linter.unusedVariables false
set_option linter.unusedSimpArgs false

/-! ### signalbenchref30_accepted: function 28 -/
def signalbenchref30_accepted.f (a0_0 : Int) (a0_1 : Int) (a0_2 : Int) (a0_3 : Int) (a0_4 : Int) (a0_5 : Int) (a0_6 : Int) (a0_7 : ByteArray) (a1_0 : Int) (a1_1 : Int) (a1_2 : Int) (a1_3 : Int) (a1_4 : Int) (a1_5 : ByteArray) (a1_6 : Int) : Option (Bool) := (signalbenchref07_Valid.f a1_0 a1_1 a1_2 a1_3 a1_4 a1_5 a1_6).bind fun t257 => (if t257 = true then (if a1_0 = 3 then (if a1_3 ≥ 0 then (if a1_3 ≤ 255 then (some (decide (a1_1 ≥ a0_6))) else (some false)) else (some false)) else (some false)) else (some false))
set_option maxHeartbeats 8000000 in
set_option maxRecDepth 100000 in
theorem signalbenchref30_accepted.calls (a0_0 : Int) (a0_1 : Int) (a0_2 : Int) (a0_3 : Int) (a0_4 : Int) (a0_5 : Int) (a0_6 : Int) (a0_7 : ByteArray) (a1_0 : Int) (a1_1 : Int) (a1_2 : Int) (a1_3 : Int) (a1_4 : Int) (a1_5 : ByteArray) (a1_6 : Int) (r : Bool) (w : World) (h : signalbenchref30_accepted.f a0_0 a0_1 a0_2 a0_3 a0_4 a0_5 a0_6 a0_7 a1_0 a1_1 a1_2 a1_3 a1_4 a1_5 a1_6 = some r) :
  Calls Tryd.prog 28 #[.agg #[.int .i64 a0_0, .int .i64 a0_1, .int .i64 a0_2, .int .i64 a0_3, .int .i64 a0_4, .int .i64 a0_5, .int .i64 a0_6, .string a0_7], .agg #[.int .i64 a1_0, .int .i64 a1_1, .int .i64 a1_2, .int .i64 a1_3, .int .i64 a1_4, .string a1_5, .int .i64 a1_6]] w fun e w' => e = .returned (.bool r) ∧ Below w.heap.size w w' := by
 have hu27 := Tryd.underlying27; have hu32 := Tryd.underlying32; have HB := sA (Below.refl w.heap.size w); have H : ((signalbenchref07_Valid.f a1_0 a1_1 a1_2 a1_3 a1_4 a1_5 a1_6).bind fun t257 => (if t257 = true then (if a1_0 = 3 then (if a1_3 ≥ 0 then (if a1_3 ≤ 255 then (some (decide (a1_1 ≥ a0_6))) else (some false)) else (some false)) else (some false)) else (some false))) = some r := h; clear h; replace H := Option.bind_eq_some_iff.mp H; obtain ⟨t257, A30, H⟩ := H; replace H : (if t257 = true then (if a1_0 = 3 then (if a1_3 ≥ 0 then (if a1_3 ≤ 255 then (some (decide (a1_1 ≥ a0_6))) else (some false)) else (some false)) else (some false)) else (some false)) = some r := H; have A3 := sA A30; clear A30
 by_cases c4 : t257 = true
 ·subst c4
  have H1 : (if a1_0 = 3 then (if a1_3 ≥ 0 then (if a1_3 ≤ 255 then (some (decide (a1_1 ≥ a0_6))) else (some false)) else (some false)) else (some false)) = some r := by rw [if_pos rfl] at H; exact H
  clear H; have H := H1; clear H1
  by_cases c5 : a1_0 = 3
  ·rw [if_pos c5] at H
   have c5b0 : (a1_0 == 3) = true := beq_iff_eq.mpr c5; have c5b1 : (a1_0 != 3) = false := bne_eq_false_iff_eq.mpr c5; clear c5
   by_cases c6 : a1_3 ≥ 0
   ·rw [if_pos c6] at H
    have c6b0 : decide (0 ≤ a1_3) = true := decide_eq_true c6; clear c6
    by_cases c7 : a1_3 ≤ 255
    ·rw [if_pos c7] at H
     have c7b0 : decide (a1_3 ≤ 255) = true := decide_eq_true c7; clear c7; obtain rfl := Option.some.inj H
     go_enter Tryd.func28, Tryd.ntmps28
     go_wp2_with (first | ((with_reducible refine gate_dst (N := 2) rfl ?_); refine boxK 2 #[.int .i64 a0_0, .int .i64 a0_1, .int .i64 a0_2, .int .i64 a0_3, .int .i64 a0_4, .int .i64 a0_5, .int .i64 a0_6, .string a0_7] 27 ?_; intro gb255 hg w8 hbox hb; have BK255 := sA hbox; have GW255 := bsz HB hg; have GE255 := bsz HB hg; replace HB := bst HB hb; clear hb hbox hg) | ((with_reducible refine gate_dst (N := 3) rfl ?_); refine boxK 3 #[.int .i64 a1_0, .int .i64 a1_1, .int .i64 a1_2, .int .i64 a1_3, .int .i64 a1_4, .string a1_5, .int .i64 a1_6] 32 ?_; intro gb256 hg w9 hbox hb; have BK256 := sA hbox; have GW256 := bsz HB hg; have GE256 := bsz HB hg; have NB255_256 := bnl BK255 hg; have NB256_255 := bng BK255 hg; replace BK255 := sA (blkb BK255.out hb); replace HB := bst HB hb; clear hb hbox hg; have hnb10 := NB256_255.out; have hnc10 := NB255_256.out; obtain ⟨_,_,_,_,_,_,_,_,_,_,_,_,_,_⟩ := cQ7 BK256) | ((with_reducible refine gate_callee (f := 35) rfl ?_); refine goesK (some 6) Tryd.func35 #[.agg #[.int .i64 a1_0, .int .i64 a1_1, .int .i64 a1_2, .int .i64 a1_3, .int .i64 a1_4, .string a1_5, .int .i64 a1_6]] ?_; (with_reducible refine (signalbenchref07_Valid.calls a1_0 a1_1 a1_2 a1_3 a1_4 a1_5 a1_6 true _ A3.out).mono ?_); rintro e w12 ⟨rfl, hb⟩; refine ⟨_, rfl, ?_⟩; replace BK255 := sA (blkb BK255.out hb); replace BK256 := sA (blkb BK256.out hb); replace HB := bst HB hb; (try clear hb); obtain ⟨_,_,_,_,_,_,_,_,_,_,_,_,_,_⟩ := cQ7 BK256; obtain ⟨_,_,_,_,_,_,_,_,_,_,_,_,_,_,_,_⟩ := cQ8 BK255))
     go_ret
     exact ⟨eW_, hbw HB.out⟩
    ·rw [if_neg c7] at H
     have c7b0 : decide (a1_3 ≤ 255) = false := decide_eq_false c7; clear c7; obtain rfl := Option.some.inj H
     go_enter Tryd.func28, Tryd.ntmps28
     go_wp2_with (first | ((with_reducible refine gate_dst (N := 2) rfl ?_); refine boxK 2 #[.int .i64 a0_0, .int .i64 a0_1, .int .i64 a0_2, .int .i64 a0_3, .int .i64 a0_4, .int .i64 a0_5, .int .i64 a0_6, .string a0_7] 27 ?_; intro gb255 hg w15 hbox hb; have BK255 := sA hbox; have GW255 := bsz HB hg; have GE255 := bsz HB hg; replace HB := bst HB hb; clear hb hbox hg) | ((with_reducible refine gate_dst (N := 3) rfl ?_); refine boxK 3 #[.int .i64 a1_0, .int .i64 a1_1, .int .i64 a1_2, .int .i64 a1_3, .int .i64 a1_4, .string a1_5, .int .i64 a1_6] 32 ?_; intro gb256 hg w16 hbox hb; have BK256 := sA hbox; have GW256 := bsz HB hg; have GE256 := bsz HB hg; have NB255_256 := bnl BK255 hg; have NB256_255 := bng BK255 hg; replace BK255 := sA (blkb BK255.out hb); replace HB := bst HB hb; clear hb hbox hg; have hnb17 := NB256_255.out; have hnc17 := NB255_256.out; obtain ⟨_,_,_,_,_,_,_,_,_,_,_,_,_,_⟩ := cQ7 BK256) | ((with_reducible refine gate_callee (f := 35) rfl ?_); refine goesK (some 6) Tryd.func35 #[.agg #[.int .i64 a1_0, .int .i64 a1_1, .int .i64 a1_2, .int .i64 a1_3, .int .i64 a1_4, .string a1_5, .int .i64 a1_6]] ?_; (with_reducible refine (signalbenchref07_Valid.calls a1_0 a1_1 a1_2 a1_3 a1_4 a1_5 a1_6 true _ A3.out).mono ?_); rintro e w19 ⟨rfl, hb⟩; refine ⟨_, rfl, ?_⟩; replace BK255 := sA (blkb BK255.out hb); replace BK256 := sA (blkb BK256.out hb); replace HB := bst HB hb; (try clear hb); obtain ⟨_,_,_,_,_,_,_,_,_,_,_,_,_,_⟩ := cQ7 BK256))
     go_ret
     exact ⟨eW_, hbw HB.out⟩
   ·rw [if_neg c6] at H
    have c6b0 : decide (0 ≤ a1_3) = false := decide_eq_false c6; clear c6; obtain rfl := Option.some.inj H
    go_enter Tryd.func28, Tryd.ntmps28
    go_wp2_with (first | ((with_reducible refine gate_dst (N := 2) rfl ?_); refine boxK 2 #[.int .i64 a0_0, .int .i64 a0_1, .int .i64 a0_2, .int .i64 a0_3, .int .i64 a0_4, .int .i64 a0_5, .int .i64 a0_6, .string a0_7] 27 ?_; intro gb255 hg w21 hbox hb; have BK255 := sA hbox; have GW255 := bsz HB hg; have GE255 := bsz HB hg; replace HB := bst HB hb; clear hb hbox hg) | ((with_reducible refine gate_dst (N := 3) rfl ?_); refine boxK 3 #[.int .i64 a1_0, .int .i64 a1_1, .int .i64 a1_2, .int .i64 a1_3, .int .i64 a1_4, .string a1_5, .int .i64 a1_6] 32 ?_; intro gb256 hg w22 hbox hb; have BK256 := sA hbox; have GW256 := bsz HB hg; have GE256 := bsz HB hg; have NB255_256 := bnl BK255 hg; have NB256_255 := bng BK255 hg; replace BK255 := sA (blkb BK255.out hb); replace HB := bst HB hb; clear hb hbox hg; have hnb23 := NB256_255.out; have hnc23 := NB255_256.out; obtain ⟨_,_,_,_,_,_,_,_,_,_,_,_,_,_⟩ := cQ7 BK256) | ((with_reducible refine gate_callee (f := 35) rfl ?_); refine goesK (some 6) Tryd.func35 #[.agg #[.int .i64 a1_0, .int .i64 a1_1, .int .i64 a1_2, .int .i64 a1_3, .int .i64 a1_4, .string a1_5, .int .i64 a1_6]] ?_; (with_reducible refine (signalbenchref07_Valid.calls a1_0 a1_1 a1_2 a1_3 a1_4 a1_5 a1_6 true _ A3.out).mono ?_); rintro e w25 ⟨rfl, hb⟩; refine ⟨_, rfl, ?_⟩; replace BK255 := sA (blkb BK255.out hb); replace BK256 := sA (blkb BK256.out hb); replace HB := bst HB hb; (try clear hb); obtain ⟨_,_,_,_,_,_,_,_,_,_,_,_,_,_⟩ := cQ7 BK256))
    go_ret
    exact ⟨eW_, hbw HB.out⟩
  ·rw [if_neg c5] at H
   have c5b0 : (a1_0 == 3) = false := beq_eq_false_iff_ne.mpr c5; have c5b1 : (a1_0 != 3) = true := bne_iff_ne.mpr c5; obtain rfl := Option.some.inj H
   go_enter Tryd.func28, Tryd.ntmps28
   go_wp2_with (first | ((with_reducible refine gate_dst (N := 2) rfl ?_); refine boxK 2 #[.int .i64 a0_0, .int .i64 a0_1, .int .i64 a0_2, .int .i64 a0_3, .int .i64 a0_4, .int .i64 a0_5, .int .i64 a0_6, .string a0_7] 27 ?_; intro gb255 hg w27 hbox hb; have BK255 := sA hbox; have GW255 := bsz HB hg; have GE255 := bsz HB hg; replace HB := bst HB hb; clear hb hbox hg) | ((with_reducible refine gate_dst (N := 3) rfl ?_); refine boxK 3 #[.int .i64 a1_0, .int .i64 a1_1, .int .i64 a1_2, .int .i64 a1_3, .int .i64 a1_4, .string a1_5, .int .i64 a1_6] 32 ?_; intro gb256 hg w28 hbox hb; have BK256 := sA hbox; have GW256 := bsz HB hg; have GE256 := bsz HB hg; have NB255_256 := bnl BK255 hg; have NB256_255 := bng BK255 hg; replace BK255 := sA (blkb BK255.out hb); replace HB := bst HB hb; clear hb hbox hg; have hnb29 := NB256_255.out; have hnc29 := NB255_256.out; obtain ⟨_,_,_,_,_,_,_,_,_,_,_,_,_,_⟩ := cQ7 BK256) | ((with_reducible refine gate_callee (f := 35) rfl ?_); refine goesK (some 6) Tryd.func35 #[.agg #[.int .i64 a1_0, .int .i64 a1_1, .int .i64 a1_2, .int .i64 a1_3, .int .i64 a1_4, .string a1_5, .int .i64 a1_6]] ?_; (with_reducible refine (signalbenchref07_Valid.calls a1_0 a1_1 a1_2 a1_3 a1_4 a1_5 a1_6 true _ A3.out).mono ?_); rintro e w31 ⟨rfl, hb⟩; refine ⟨_, rfl, ?_⟩; replace BK255 := sA (blkb BK255.out hb); replace BK256 := sA (blkb BK256.out hb); replace HB := bst HB hb; (try clear hb); obtain ⟨_,_,_,_,_,_,_,_,_,_,_,_,_,_⟩ := cQ7 BK256))
   go_ret
   exact ⟨eW_, hbw HB.out⟩
 ·replace c4 := Bool.eq_false_iff.mpr c4
  subst c4
  have H1 : (some false) = some r := by rw [if_neg (show ¬ (false = true) by decide)] at H; exact H
  clear H; have H := H1; clear H1; obtain rfl := Option.some.inj H
  go_enter Tryd.func28, Tryd.ntmps28
  go_wp2_with (first | ((with_reducible refine gate_dst (N := 2) rfl ?_); refine boxK 2 #[.int .i64 a0_0, .int .i64 a0_1, .int .i64 a0_2, .int .i64 a0_3, .int .i64 a0_4, .int .i64 a0_5, .int .i64 a0_6, .string a0_7] 27 ?_; intro gb255 hg w33 hbox hb; have BK255 := sA hbox; have GW255 := bsz HB hg; have GE255 := bsz HB hg; replace HB := bst HB hb; clear hb hbox hg) | ((with_reducible refine gate_dst (N := 3) rfl ?_); refine boxK 3 #[.int .i64 a1_0, .int .i64 a1_1, .int .i64 a1_2, .int .i64 a1_3, .int .i64 a1_4, .string a1_5, .int .i64 a1_6] 32 ?_; intro gb256 hg w34 hbox hb; have BK256 := sA hbox; have GW256 := bsz HB hg; have GE256 := bsz HB hg; have NB255_256 := bnl BK255 hg; have NB256_255 := bng BK255 hg; replace BK255 := sA (blkb BK255.out hb); replace HB := bst HB hb; clear hb hbox hg; have hnb35 := NB256_255.out; have hnc35 := NB255_256.out; obtain ⟨_,_,_,_,_,_,_,_,_,_,_,_,_,_⟩ := cQ7 BK256) | ((with_reducible refine gate_callee (f := 35) rfl ?_); refine goesK (some 6) Tryd.func35 #[.agg #[.int .i64 a1_0, .int .i64 a1_1, .int .i64 a1_2, .int .i64 a1_3, .int .i64 a1_4, .string a1_5, .int .i64 a1_6]] ?_; (with_reducible refine (signalbenchref07_Valid.calls a1_0 a1_1 a1_2 a1_3 a1_4 a1_5 a1_6 false _ A3.out).mono ?_); rintro e w37 ⟨rfl, hb⟩; refine ⟨_, rfl, ?_⟩; replace BK255 := sA (blkb BK255.out hb); replace BK256 := sA (blkb BK256.out hb); replace HB := bst HB hb; (try clear hb)))
  go_ret
  exact ⟨eW_, hbw HB.out⟩

/-! ### signalbenchref30_Crc: function 36 -/
mutual
def signalbenchref30_Crc.l0 : Nat → ByteArray → Int → Int → Option (Int)
 | 0, _, _, _ => none
 | k + 1, x0, x3, x4 => if x4 < (x0.size : Int) then (signalbenchref30_Crc.j1 k x0 x3 x4) else (some x3)
def signalbenchref30_Crc.j1 : Nat → ByteArray → Int → Int → Option (Int)
 | 0, _, _, _ => none
 | k + 1, x0, x3, x4 => if 0 ≤ x4 then (if x4 < (x0.size : Int) then (signalbenchref30_Crc.l1 k x0 (Go.bits .xor .i64 x3 (wrap64 (bt x0 x4))) x4 0) else (none)) else (none)
def signalbenchref30_Crc.l1 : Nat → ByteArray → Int → Int → Int → Option (Int)
 | 0, _, _, _, _ => none
 | k + 1, x0, x3, x4, x5 => if x5 < 8 then (if (Go.bits .and .i64 x3 1) = 1 then (signalbenchref30_Crc.l1 k x0 (Go.bits .xor .i64 (x3 / 2) 40961) x4 (wrap64 (x5 + 1))) else (signalbenchref30_Crc.l1 k x0 (x3 / 2) x4 (wrap64 (x5 + 1)))) else (signalbenchref30_Crc.l0 k x0 x3 (wrap64 (x4 + 1)))
end
def signalbenchref30_Crc.f (k : Nat) (a0 : ByteArray) : Option (Int) := signalbenchref30_Crc.l0 k a0 65535 0
theorem signalbenchref30_Crc.mono_l : ∀ k, (∀ y0 y1 y2, LeO (signalbenchref30_Crc.l0 k y0 y1 y2) (signalbenchref30_Crc.l0 (k + 1) y0 y1 y2)) ∧ (∀ y0 y1 y2, LeO (signalbenchref30_Crc.j1 k y0 y1 y2) (signalbenchref30_Crc.j1 (k + 1) y0 y1 y2)) ∧ (∀ y0 y1 y2 y3, LeO (signalbenchref30_Crc.l1 k y0 y1 y2 y3) (signalbenchref30_Crc.l1 (k + 1) y0 y1 y2 y3))
 | 0 => ⟨fun _ _ _ r h => by simp [signalbenchref30_Crc.l0] at h, fun _ _ _ r h => by simp [signalbenchref30_Crc.j1] at h, fun _ _ _ _ r h => by simp [signalbenchref30_Crc.l1] at h⟩
 | k + 1 => by
  obtain ⟨ih0, ih1, ih2⟩ := signalbenchref30_Crc.mono_l k; refine ⟨?_, ?_, ?_⟩
  ·intro y0 y1 y2
   unfold signalbenchref30_Crc.l0
   repeat' first
   | (with_reducible exact ih0 _ _ _)
   | (with_reducible exact ih1 _ _ _)
   | (with_reducible exact ih2 _ _ _ _)
   | (with_reducible exact LeO.refl _)
   | (with_reducible exact LeO.none _)
   | (with_reducible refine LeO.ite ?_ ?_)
   | (with_reducible refine LeO.bind ?_ (fun _ => ?_))
   | exact ih0 _ _ _
   | exact ih1 _ _ _
   | exact ih2 _ _ _ _
   | exact LeO.none _
   | refine LeO.ite ?_ ?_
   | refine LeO.bind ?_ (fun _ => ?_)
  ·intro y0 y1 y2
   unfold signalbenchref30_Crc.j1
   repeat' first
   | (with_reducible exact ih0 _ _ _)
   | (with_reducible exact ih1 _ _ _)
   | (with_reducible exact ih2 _ _ _ _)
   | (with_reducible exact LeO.refl _)
   | (with_reducible exact LeO.none _)
   | (with_reducible refine LeO.ite ?_ ?_)
   | (with_reducible refine LeO.bind ?_ (fun _ => ?_))
   | exact ih0 _ _ _
   | exact ih1 _ _ _
   | exact ih2 _ _ _ _
   | exact LeO.none _
   | refine LeO.ite ?_ ?_
   | refine LeO.bind ?_ (fun _ => ?_)
  ·intro y0 y1 y2 y3
   unfold signalbenchref30_Crc.l1
   repeat' first
   | (with_reducible exact ih0 _ _ _)
   | (with_reducible exact ih1 _ _ _)
   | (with_reducible exact ih2 _ _ _ _)
   | (with_reducible exact LeO.refl _)
   | (with_reducible exact LeO.none _)
   | (with_reducible refine LeO.ite ?_ ?_)
   | (with_reducible refine LeO.bind ?_ (fun _ => ?_))
   | exact ih0 _ _ _
   | exact ih1 _ _ _
   | exact ih2 _ _ _ _
   | exact LeO.none _
   | refine LeO.ite ?_ ?_
   | refine LeO.bind ?_ (fun _ => ?_)
theorem signalbenchref30_Crc.mono : ∀ a0 k, LeO (signalbenchref30_Crc.f k a0) (signalbenchref30_Crc.f (k + 1) a0) := by
 intro a0 k; obtain ⟨ih0, ih1, ih2⟩ := signalbenchref30_Crc.mono_l k
 unfold signalbenchref30_Crc.f
 repeat' first
   | (with_reducible exact ih0 _ _ _)
   | (with_reducible exact ih1 _ _ _)
   | (with_reducible exact ih2 _ _ _ _)
   | (with_reducible exact LeO.refl _)
   | (with_reducible exact LeO.none _)
   | (with_reducible refine LeO.ite ?_ ?_)
   | (with_reducible refine LeO.bind ?_ (fun _ => ?_))
   | exact ih0 _ _ _
   | exact ih1 _ _ _
   | exact ih2 _ _ _ _
   | exact LeO.none _
   | refine LeO.ite ?_ ?_
   | refine LeO.bind ?_ (fun _ => ?_)
set_option maxHeartbeats 8000000 in
set_option maxRecDepth 100000 in
theorem signalbenchref30_Crc.calls (k : Nat) (a0 : ByteArray) (r : Int) (w : World) (h : signalbenchref30_Crc.f k a0 = some r) :
  Calls Tryd.prog 36 #[.string a0] w fun e w' => e = .returned (.int .i64 r) ∧ Drawn0 w w' := by
 have H : (signalbenchref30_Crc.l0 k a0 65535 0) = some r := h; clear h; have H' := sA H; clear H
 go_enter Tryd.func36, Tryd.ntmps36
 go_wp2
 go_loopg [3, 4] k (fun kq v3 v4 w' => ∃ (x3_1 : Int) (x4_1 : Int), v3 = .int .i64 x3_1 ∧ v4 = .int .i64 x4_1 ∧ Aside0 (signalbenchref30_Crc.l0 kq a0 x3_1 x4_1 = some r) ∧ Aside0 (kq ≤ k) ∧ Drawn0 w w')
 case atStart => exact ⟨(65535), (0), (by first | rfl | (simp; done) | (simp [*]; done)), (by first | rfl | (simp; done) | (simp [*]; done)), H', ⟨Nat.le_refl _⟩, by repeat (first | exact Drawn0.refl _ | apply Drawn0.step)⟩
 case round =>
  clear H'; obtain ⟨x3_1, x4_1, rfl, rfl, HA, HK1, ⟨m1, rfl⟩⟩ := hrel
  cases gk with
  | zero => exact absurd HA.out (by simp [signalbenchref30_Crc.l0])
  | succ k1 =>
   have H := HA.out; clear HA
   simp only [signalbenchref30_Crc.l0] at H
   have HC2 := sA H; clear H
   go_upto_if 10 with (fail)
   go_cut [] (fun wc => ∃ (kq : Nat), Aside0 (signalbenchref30_Crc.j1 kq a0 x3_1 x4_1 = some r) ∧ Aside0 (kq ≤ k1) ∧ Drawn0 w wc)
   case first =>
    have H := HC2.out; clear HC2
    by_cases c3 : x4_1 < (a0.size : Int)
    ·rw [if_pos c3] at H
     have c3b0 : decide (x4_1 < (a0.size : Int)) = true := decide_eq_true c3; clear c3
     (first | rw [c3b0] | (simp only [i64_w, i32_w]; rw [c3b0]) | skip)
     have H' := sA H; clear H
     go_wp2
     go_meet
     case rel => exact ⟨_, H', ⟨by have := HK1.out; first | omega | exact Nat.le_refl _⟩, by repeat (first | exact Drawn0.refl _ | apply Drawn0.step)⟩
    ·rw [if_neg c3] at H
     have c3b0 : decide (x4_1 < (a0.size : Int)) = false := decide_eq_false c3; clear c3
     (first | rw [c3b0] | (simp only [i64_w, i32_w]; rw [c3b0]) | skip)
     obtain rfl := Option.some.inj H
     go_wp2
     go_ret
     exact ⟨by first | rfl | (simp; done) | (simp [*]; done), by repeat (first | exact Drawn0.refl _ | apply Drawn0.step)⟩
   case rest =>
    clear HC2
    obtain ⟨kq, HA, HJ1, ⟨mc1, rfl⟩⟩ := hcut
    cases kq with
    | zero => exact absurd HA.out (by simp [signalbenchref30_Crc.j1])
    | succ kj1 =>
     have H := HA.out; clear HA
     simp only [signalbenchref30_Crc.j1] at H
     by_cases c4 : 0 ≤ x4_1
     ·rw [if_pos c4] at H
      have c4b0 : decide (0 ≤ x4_1) = true := decide_eq_true c4; clear c4
      by_cases c5 : x4_1 < (a0.size : Int)
      ·rw [if_pos c5] at H
       have c5b0 : decide (x4_1 < (a0.size : Int)) = true := decide_eq_true c5; clear c5; have H' := sA H; clear H; have p6 : 0 ≤ (x4_1 : Int) := of_decide_eq_true (by first | (with_reducible assumption) | assumption); have q6 : x4_1 < (a0.size : Int) := of_decide_eq_true (by first | (with_reducible assumption) | assumption); have hx6 := bt_at a0 x4_1; replace p6 := eq_true p6; replace q6 := eq_true q6
       go_wp2
       go_loopg [3, 5] kj1 (fun kq v3 v5 w' => ∃ (x3_3 : Int) (x5_3 : Int), v3 = .int .i64 x3_3 ∧ v5 = .int .i64 x5_3 ∧ Aside0 (signalbenchref30_Crc.l1 kq a0 x3_3 x4_1 x5_3 = some r) ∧ Aside0 (kq ≤ kj1) ∧ Drawn0 w w')
       case atStart => exact ⟨(Go.bits .xor .i64 x3_1 (wrap64 (bt a0 x4_1))), (0), (by first | rfl | (simp; done) | (simp [*]; done)), (by first | rfl | (simp; done) | (simp [*]; done)), H', ⟨Nat.le_refl _⟩, by repeat (first | exact Drawn0.refl _ | apply Drawn0.step)⟩
       case round =>
        clear H'
        try clear c4
        try clear c4b0
        try clear c5
        try clear c5b0
        try clear p6
        try clear q6
        try clear hx6
        try clear p6
        try clear q6
        obtain ⟨x3_3, x5_3, rfl, rfl, HA, HK3, ⟨m3, rfl⟩⟩ := hrel
        cases gk with
        | zero => exact absurd HA.out (by simp [signalbenchref30_Crc.l1])
        | succ k3 =>
         have H := HA.out; clear HA
         simp only [signalbenchref30_Crc.l1] at H
         by_cases c7 : x5_3 < 8
         ·rw [if_pos c7] at H
          have c7b0 : decide (x5_3 < 8) = true := decide_eq_true c7; clear c7
          by_cases c8 : (Go.bits .and .i64 x3_3 1) = 1
          ·rw [if_pos c8] at H
           have c8b0 : ((Go.bits .and .i64 x3_3 1) == 1) = true := beq_iff_eq.mpr c8; have c8b1 : ((Go.bits .and .i64 x3_3 1) != 1) = false := bne_eq_false_iff_eq.mpr c8; clear c8; have H' := sA H; clear H
           go_wp2
           go_roundg k3
           case measure => have := HK1.out; have := HJ1.out; have := HK3.out; omega
           case rel => exact ⟨(Go.bits .xor .i64 (x3_3 / 2) 40961), (wrap64 (x5_3 + 1)), (by first | rfl | (simp; done) | (simp [*]; done)), (by first | rfl | (simp; done) | (simp [*]; done)), H', ⟨by have := HK1.out; have := HJ1.out; have := HK3.out; omega⟩, by repeat (first | exact Drawn0.refl _ | apply Drawn0.step)⟩
          ·rw [if_neg c8] at H
           have c8b0 : ((Go.bits .and .i64 x3_3 1) == 1) = false := beq_eq_false_iff_ne.mpr c8; have c8b1 : ((Go.bits .and .i64 x3_3 1) != 1) = true := bne_iff_ne.mpr c8; have H' := sA H; clear H
           go_wp2
           go_roundg k3
           case measure => have := HK1.out; have := HJ1.out; have := HK3.out; omega
           case rel => exact ⟨(x3_3 / 2), (wrap64 (x5_3 + 1)), (by first | rfl | (simp; done) | (simp [*]; done)), (by first | rfl | (simp; done) | (simp [*]; done)), H', ⟨by have := HK1.out; have := HJ1.out; have := HK3.out; omega⟩, by repeat (first | exact Drawn0.refl _ | apply Drawn0.step)⟩
         ·rw [if_neg c7] at H
          have c7b0 : decide (x5_3 < 8) = false := decide_eq_false c7; clear c7; have H' := sA H; clear H
          go_wp2
          go_roundg k3
          case measure => have := HK1.out; have := HJ1.out; have := HK3.out; omega
          case rel => exact ⟨(x3_3), (wrap64 (x4_1 + 1)), (by first | rfl | (simp; done) | (simp [*]; done)), (by first | rfl | (simp; done) | (simp [*]; done)), H', ⟨by have := HK1.out; have := HJ1.out; have := HK3.out; omega⟩, by repeat (first | exact Drawn0.refl _ | apply Drawn0.step)⟩
      ·rw [if_neg c5] at H
       exact absurd H (by simp)
     ·rw [if_neg c4] at H
      exact absurd H (by simp)

end Go.Proofs.YtmalhgidhieamaaDoor.PModbusDecodes
