-- Written by a program of this session (wip/tools/pr.py), which calls the kit's print with changes of its own.
import Derived.Test.YtmalhgidhieamaaDoorPModbusDecodesx0
namespace Go.Proofs.YtmalhgidhieamaaDoor.PModbusDecodes
open Go.RowKit Go.Proofs.YtmalhgidhieamaaDoorW.PrintWords Go.Proofs.YtmalhgidhieamaaDoorW.PrintLast Go.Proofs.YtmalhgidhieamaaDoorW.PrintMore
attribute [local go_sem] max2_int min2_int max_two min_two max_three min_three max_four min_four   -- for this text's walks alone
set_option linter.unusedVariables false
set_option linter.unusedSimpArgs false

/-! ### check_shift: function 41 -/
def check_shift.f (a0_0 : Int) (a0_1 : Int) (a0_2 : Int) (a0_3 : Int) (a0_4 : Bool) (a1 : Int) (a2 : Int) : Option (Int) := if 0 ≤ (wrap64 (a0_0 - 1)) then (if 0 ≤ a0_0 then (if (Go.bits .and .i64 (shr .i64 a1 (wrap64 (a0_0 - 1))) 1) = a2 then (some (Go.bits .and .i64 (wrap64 (a1 * 2)) (wrap64 ((shl .i64 1 a0_0) - 1)))) else (some (Go.bits .xor .i64 (Go.bits .and .i64 (wrap64 (a1 * 2)) (wrap64 ((shl .i64 1 a0_0) - 1))) a0_1))) else (none)) else (none)
set_option maxHeartbeats 8000000 in
set_option maxRecDepth 100000 in
theorem check_shift.calls (a0_0 : Int) (a0_1 : Int) (a0_2 : Int) (a0_3 : Int) (a0_4 : Bool) (a1 : Int) (a2 : Int) (r : Int) (w : World) (h : check_shift.f a0_0 a0_1 a0_2 a0_3 a0_4 a1 a2 = some r) :
  Calls Tryd.prog 41 #[.agg #[.int .i64 a0_0, .int .i64 a0_1, .int .i64 a0_2, .int .i64 a0_3, .bool a0_4], .int .i64 a1, .int .i64 a2] w fun e w' => e = .returned (.int .i64 r) ∧ Below w.heap.size w w' := by
 have hu67 := Tryd.underlying67; have HB := sA (Below.refl w.heap.size w); have H : (if 0 ≤ (wrap64 (a0_0 - 1)) then (if 0 ≤ a0_0 then (if (Go.bits .and .i64 (shr .i64 a1 (wrap64 (a0_0 - 1))) 1) = a2 then (some (Go.bits .and .i64 (wrap64 (a1 * 2)) (wrap64 ((shl .i64 1 a0_0) - 1)))) else (some (Go.bits .xor .i64 (Go.bits .and .i64 (wrap64 (a1 * 2)) (wrap64 ((shl .i64 1 a0_0) - 1))) a0_1))) else (none)) else (none)) = some r := h; clear h; obtain ⟨ji4, hji4⟩ : ∃ j_ : Int, (wrap64 (a0_0 - 1)) = j_ := ⟨_, rfl⟩
 replace H : (if 0 ≤ (ji4) then (if 0 ≤ a0_0 then (if (Go.bits .and .i64 (shr .i64 a1 (ji4)) 1) = a2 then (some (Go.bits .and .i64 (wrap64 (a1 * 2)) (wrap64 ((shl .i64 1 a0_0) - 1)))) else (some (Go.bits .xor .i64 (Go.bits .and .i64 (wrap64 (a1 * 2)) (wrap64 ((shl .i64 1 a0_0) - 1))) a0_1))) else (none)) else (none)) = some r := by first | (rw [hji4] at H; exact H) | (simp only [hji4] at H ⊢; exact H)
 have hji4w : (IntKind.i64.wrap (a0_0 - 1)) = ji4 := (i64_w _).trans hji4
 by_cases c5 : 0 ≤ (ji4)
 ·rw [if_pos c5] at H
  have c5b0 := eq_true c5; have c5b1 : decide (0 ≤ (ji4)) = true := decide_eq_true c5; clear c5; obtain ⟨ji6, hji6⟩ : ∃ j_ : Int, (shr .i64 a1 (ji4)) = j_ := ⟨_, rfl⟩
  replace H : (if 0 ≤ a0_0 then (if (Go.bits .and .i64 (ji6) 1) = a2 then (some (Go.bits .and .i64 (wrap64 (a1 * 2)) (wrap64 ((shl .i64 1 a0_0) - 1)))) else (some (Go.bits .xor .i64 (Go.bits .and .i64 (wrap64 (a1 * 2)) (wrap64 ((shl .i64 1 a0_0) - 1))) a0_1))) else (none)) = some r := by first | (rw [hji6] at H; exact H) | (simp only [hji6] at H ⊢; exact H)
  have hji6_ : (a1 / 2 ^ min (ji4).toNat 64) = ji6 := hji6; have hji6z : (ji4) ≤ 64 → (a1 / 2 ^ (ji4).toNat) = ji6 := shr_small hji6
  by_cases c7 : 0 ≤ a0_0
  ·rw [if_pos c7] at H
   have c7b0 := eq_true c7; have c7b1 : decide (0 ≤ a0_0) = true := decide_eq_true c7; clear c7; obtain ⟨ji8, hji8⟩ : ∃ j_ : Int, (shl .i64 1 a0_0) = j_ := ⟨_, rfl⟩
   replace H : (if (Go.bits .and .i64 (ji6) 1) = a2 then (some (Go.bits .and .i64 (wrap64 (a1 * 2)) (wrap64 ((ji8) - 1)))) else (some (Go.bits .xor .i64 (Go.bits .and .i64 (wrap64 (a1 * 2)) (wrap64 ((ji8) - 1))) a0_1))) = some r := by first | (rw [hji8] at H; exact H) | (simp only [hji8] at H ⊢; exact H)
   have hji8_ : (IntKind.i64.wrap (1 * 2 ^ min a0_0.toNat 64)) = ji8 := hji8; have hji8z : a0_0 ≤ 64 → (IntKind.i64.wrap (1 * 2 ^ a0_0.toNat)) = ji8 := shl_small hji8
   have hji8u : (IntKind.i64.wrap (2 ^ min a0_0.toNat 64)) = ji8 := by have h_ := hji8_; rw [Int.one_mul] at h_; exact h_
   have hji8v : a0_0 ≤ 64 → (IntKind.i64.wrap (2 ^ a0_0.toNat)) = ji8 := fun hle_ => by have h_ := hji8z hle_; rw [Int.one_mul] at h_; exact h_
   have hji8y : (wrap64 (1 * 2 ^ min a0_0.toNat 64)) = ji8 := (i64_w _).symm.trans hji8_
   have hji8x : a0_0 ≤ 64 → (wrap64 (1 * 2 ^ a0_0.toNat)) = ji8 := fun h_ => (i64_w _).symm.trans (hji8z h_)
   by_cases c9 : (Go.bits .and .i64 (ji6) 1) = a2
   ·rw [if_pos c9] at H
    have c9b0 : ((Go.bits .and .i64 (ji6) 1) == a2) = true := beq_iff_eq.mpr c9; have c9b1 : ((Go.bits .and .i64 (ji6) 1) != a2) = false := bne_eq_false_iff_eq.mpr c9; clear c9; obtain rfl := Option.some.inj H
    go_enter Tryd.func41, Tryd.ntmps41
    go_wp2_with (first | ((with_reducible refine gate_dst (N := 3) rfl ?_); refine boxK 3 #[.int .i64 a0_0, .int .i64 a0_1, .int .i64 a0_2, .int .i64 a0_3, .bool a0_4] 67 ?_; intro gb106 hg w10 hbox hb; have BK106 := sA hbox; have GW106 := bsz HB hg; have GE106 := bsz HB hg; replace HB := bst HB hb; clear hb hbox hg; obtain ⟨_,_,_,_,_,_,_,_,_,_⟩ := cQ5 BK106))
    go_ret
    exact ⟨by first | rfl | (simp [errW_none, errW_some] <;> rfl) | (simp only [← hji4, ← hji6, ← hji8]; first | rfl | (simp [errW_none, errW_some] <;> rfl)) | (simp [*, errW_none, errW_some] <;> rfl), hbw HB.out⟩
   ·rw [if_neg c9] at H
    have c9b0 : ((Go.bits .and .i64 (ji6) 1) == a2) = false := beq_eq_false_iff_ne.mpr c9; have c9b1 : ((Go.bits .and .i64 (ji6) 1) != a2) = true := bne_iff_ne.mpr c9; obtain rfl := Option.some.inj H
    go_enter Tryd.func41, Tryd.ntmps41
    go_wp2_with (first | ((with_reducible refine gate_dst (N := 3) rfl ?_); refine boxK 3 #[.int .i64 a0_0, .int .i64 a0_1, .int .i64 a0_2, .int .i64 a0_3, .bool a0_4] 67 ?_; intro gb106 hg w12 hbox hb; have BK106 := sA hbox; have GW106 := bsz HB hg; have GE106 := bsz HB hg; replace HB := bst HB hb; clear hb hbox hg; obtain ⟨_,_,_,_,_,_,_,_,_,_⟩ := cQ5 BK106))
    go_ret
    exact ⟨by first | rfl | (simp [errW_none, errW_some] <;> rfl) | (simp only [← hji4, ← hji6, ← hji8]; first | rfl | (simp [errW_none, errW_some] <;> rfl)) | (simp [*, errW_none, errW_some] <;> rfl), hbw HB.out⟩
  ·rw [if_neg c7] at H
   exact absurd H (by simp)
 ·rw [if_neg c5] at H
  exact absurd H (by simp)

/-! ### check_finish: function 42 -/
def check_finish.l0 : Nat → Int → Int → Int → Int → Int → Int → Int → Int → Bool → Option (Int)
 | 0, _, _, _, _, _, _, _, _, _ => none
 | k + 1, x1, x5, x9, x10, x108000, x108001, x108002, x108003, x108004 => if x10 < x9 then (check_finish.l0 k (x1 / 2) (Go.bits .or .i64 (wrap64 (x5 * 2)) (Go.bits .and .i64 x1 1)) x9 (wrap64 (x10 + 1)) x108000 x108001 x108002 x108003 x108004) else (some (Go.bits .xor .i64 x5 x108003))
def check_finish.f (k : Nat) (a0_0 : Int) (a0_1 : Int) (a0_2 : Int) (a0_3 : Int) (a0_4 : Bool) (a1 : Int) : Option (Int) := if a0_4 = true then (check_finish.l0 k a1 0 a0_0 0 a0_0 a0_1 a0_2 a0_3 a0_4) else (some (Go.bits .xor .i64 a1 a0_3))
theorem check_finish.mono_l : ∀ k, (∀ y0 y1 y2 y3 y4 y5 y6 y7 y8, LeO (check_finish.l0 k y0 y1 y2 y3 y4 y5 y6 y7 y8) (check_finish.l0 (k + 1) y0 y1 y2 y3 y4 y5 y6 y7 y8))
 | 0 => fun _ _ _ _ _ _ _ _ _ r h => by simp [check_finish.l0] at h
 | k + 1 => by
  have ih0 := check_finish.mono_l k
  ·intro y0 y1 y2 y3 y4 y5 y6 y7 y8
   unfold check_finish.l0
   repeat' first
   | (with_reducible exact ih0 _ _ _ _ _ _ _ _ _)
   | (with_reducible exact LeO.refl _)
   | (with_reducible exact LeO.none _)
   | (with_reducible refine LeO.ite ?_ ?_)
   | (with_reducible refine LeO.bind ?_ (fun _ => ?_))
   | exact ih0 _ _ _ _ _ _ _ _ _
   | exact LeO.none _
   | refine LeO.ite ?_ ?_
   | refine LeO.bind ?_ (fun _ => ?_)
theorem check_finish.mono : ∀ a0 a1 a2 a3 a4 a5 k, LeO (check_finish.f k a0 a1 a2 a3 a4 a5) (check_finish.f (k + 1) a0 a1 a2 a3 a4 a5) := by
 intro a0 a1 a2 a3 a4 a5 k; have ih0 := check_finish.mono_l k
 unfold check_finish.f
 repeat' first
   | (with_reducible exact ih0 _ _ _ _ _ _ _ _ _)
   | (with_reducible exact LeO.refl _)
   | (with_reducible exact LeO.none _)
   | (with_reducible refine LeO.ite ?_ ?_)
   | (with_reducible refine LeO.bind ?_ (fun _ => ?_))
   | exact ih0 _ _ _ _ _ _ _ _ _
   | exact LeO.none _
   | refine LeO.ite ?_ ?_
   | refine LeO.bind ?_ (fun _ => ?_)
set_option maxHeartbeats 8000000 in
set_option maxRecDepth 100000 in
theorem check_finish.calls (k : Nat) (a0_0 : Int) (a0_1 : Int) (a0_2 : Int) (a0_3 : Int) (a0_4 : Bool) (a1 : Int) (r : Int) (w : World) (h : check_finish.f k a0_0 a0_1 a0_2 a0_3 a0_4 a1 = some r) :
  Calls Tryd.prog 42 #[.agg #[.int .i64 a0_0, .int .i64 a0_1, .int .i64 a0_2, .int .i64 a0_3, .bool a0_4], .int .i64 a1] w fun e w' => e = .returned (.int .i64 r) ∧ Below w.heap.size w w' := by
 have hu67 := Tryd.underlying67; have HB := sA (Below.refl w.heap.size w); have H : (if a0_4 = true then (check_finish.l0 k a1 0 a0_0 0 a0_0 a0_1 a0_2 a0_3 a0_4) else (some (Go.bits .xor .i64 a1 a0_3))) = some r := h; clear h
 by_cases c3 : a0_4 = true
 ·subst c3
  have H1 : (check_finish.l0 k a1 0 a0_0 0 a0_0 a0_1 a0_2 a0_3 true) = some r := by rw [if_pos rfl] at H; exact H
  clear H; have H := H1; clear H1; have H' := sA H; clear H
  go_enter Tryd.func42, Tryd.ntmps42
  go_wp2_with (first | ((with_reducible refine gate_dst (N := 2) rfl ?_); refine boxK 2 #[.int .i64 a0_0, .int .i64 a0_1, .int .i64 a0_2, .int .i64 a0_3, .bool true] 67 ?_; intro gb107 hg w4 hbox hb; have BK107 := sA hbox; have GW107 := bsz HB hg; have GE107 := bsz HB hg; replace HB := bst HB hb; clear hb hbox hg; obtain ⟨hcz5_0,hcz5_1,hcz5_2,hcz5_3,hcz5_4,hfz5_0,hfz5_1,hfz5_2,hfz5_3,hfz5_4⟩ := cQ5 BK107))
  go_loopg [1, 5, 10] k (fun kq v1 v5 v10 w' => ∃ (x1_1 : Int) (x5_1 : Int) (x10_1 : Int), v1 = .int .i64 x1_1 ∧ v5 = .int .i64 x5_1 ∧ v10 = .int .i64 x10_1 ∧ Aside0 (check_finish.l0 kq x1_1 x5_1 a0_0 x10_1 a0_0 a0_1 a0_2 a0_3 true = some r) ∧ Aside0 (kq ≤ k) ∧ Aside0 (w'.heap[gb107]? = some (.cells #[.int .i64 a0_0, .int .i64 a0_1, .int .i64 a0_2, .int .i64 a0_3, .bool true] 67 (0, 0))) ∧ Aside0 (Below w.heap.size w w'))
  case atStart => exact ⟨(a1), (0), (0), (by first | rfl | (simp; done) | (simp [*]; done)), (by first | rfl | (simp; done) | (simp [*]; done)), (by first | rfl | (simp; done) | (simp [*]; done)), H', ⟨Nat.le_refl _⟩, ⟨bkw BK107.out⟩, ⟨hbw HB.out⟩⟩
  case round =>
   clear H'
   try clear c3
   try clear hcz5_0
   try clear hcz5_1
   try clear hcz5_2
   try clear hcz5_3
   try clear hcz5_4
   try clear hfz5_0
   try clear hfz5_1
   try clear hfz5_2
   try clear hfz5_3
   try clear hfz5_4
   obtain ⟨x1_1, x5_1, x10_1, rfl, rfl, rfl, HA, HK1, BK107, HB⟩ := hrel
   cases gk with
   | zero => exact absurd HA.out (by simp [check_finish.l0])
   | succ k1 =>
    have H := HA.out; clear HA
    simp only [check_finish.l0] at H
    by_cases c6 : x10_1 < a0_0
    ·rw [if_pos c6] at H
     have c6b0 : decide (x10_1 < a0_0) = true := decide_eq_true c6; clear c6; have H' := sA H; clear H
     go_wp2
     go_roundg k1
     case measure => have := HK1.out; omega
     case rel => exact ⟨(x1_1 / 2), (Go.bits .or .i64 (wrap64 (x5_1 * 2)) (Go.bits .and .i64 x1_1 1)), (wrap64 (x10_1 + 1)), (by first | rfl | (simp; done) | (simp [*]; done)), (by first | rfl | (simp; done) | (simp [*]; done)), (by first | rfl | (simp; done) | (simp [*]; done)), H', ⟨by have := HK1.out; omega⟩, ⟨bkw BK107.out⟩, ⟨hbw HB.out⟩⟩
    ·rw [if_neg c6] at H
     have c6b0 : decide (x10_1 < a0_0) = false := decide_eq_false c6; clear c6; obtain rfl := Option.some.inj H; obtain ⟨_,_,_,_,_,_,_,_,_,_⟩ := cQ5 BK107
     go_wp2
     go_ret
     exact ⟨eW_, hbw HB.out⟩
 ·replace c3 := Bool.eq_false_iff.mpr c3
  subst c3
  have H1 : (some (Go.bits .xor .i64 a1 a0_3)) = some r := by rw [if_neg (show ¬ (false = true) by decide)] at H; exact H
  clear H; have H := H1; clear H1; obtain rfl := Option.some.inj H
  go_enter Tryd.func42, Tryd.ntmps42
  go_wp2_with (first | ((with_reducible refine gate_dst (N := 2) rfl ?_); refine boxK 2 #[.int .i64 a0_0, .int .i64 a0_1, .int .i64 a0_2, .int .i64 a0_3, .bool false] 67 ?_; intro gb107 hg w8 hbox hb; have BK107 := sA hbox; have GW107 := bsz HB hg; have GE107 := bsz HB hg; replace HB := bst HB hb; clear hb hbox hg; obtain ⟨_,_,_,_,_,_,_,_,_,_⟩ := cQ5 BK107))
  go_ret
  exact ⟨eW_, hbw HB.out⟩

end Go.Proofs.YtmalhgidhieamaaDoor.PModbusDecodes
