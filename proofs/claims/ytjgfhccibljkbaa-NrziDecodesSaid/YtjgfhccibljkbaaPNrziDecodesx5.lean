-- Written by a program of this session (wip/tools/pr.py), which calls the kit's print with changes of its own.
import Derived.Test.YtjgfhccibljkbaaPNrziDecodesx0
import Derived.Test.YtjgfhccibljkbaaPNrziDecodesx4
namespace Go.Proofs.Ytjgfhccibljkbaa.PNrziDecodes
open Go.RowKit Go.Proofs.YtjgfhccibljkbaaW.PrintWords Go.Proofs.YtjgfhccibljkbaaW.PrintLast Go.Proofs.YtjgfhccibljkbaaW.PrintMore
attribute [local go_sem] max2_int min2_int max_two min_two max_three min_three max_four min_four   -- for this text's walks alone
set_option linter.unusedVariables false
set_option linter.unusedSimpArgs false

/-! ### nrzi_check: function 29 -/
def nrzi_check.j0 : Nat → Bool → Int → Int → Int → ByteArray → Int → Option (Int)
 | 0, _, _, _, _, _, _ => none
 | k + 1, x3, x155000, x155001, x155002, x155003, x155004 => if x3 = true then (some 1) else (if (x155003.size : Int) > 4096 then (some 6) else ((bits_Valid.f k x155003).bind fun t155 => (if t155 = true then (if x155004 = 0 then (if x155001 = 0 then (if x155002 = 0 then (some 0) else (some 1)) else (some 1)) else (some 1)) else (some 4))))
def nrzi_check.f (k : Nat) (a0_0 : Int) (a0_1 : Int) (a0_2 : Int) (a0_3 : ByteArray) (a0_4 : Int) : Option (Int) := if a0_0 < 0 then (nrzi_check.j0 k true a0_0 a0_1 a0_2 a0_3 a0_4) else (nrzi_check.j0 k (decide (a0_0 > 1048576)) a0_0 a0_1 a0_2 a0_3 a0_4)
theorem nrzi_check.mono_l : ∀ k, (∀ y0 y1 y2 y3 y4 y5, LeO (nrzi_check.j0 k y0 y1 y2 y3 y4 y5) (nrzi_check.j0 (k + 1) y0 y1 y2 y3 y4 y5))
 | 0 => fun _ _ _ _ _ _ r h => by simp [nrzi_check.j0] at h
 | k + 1 => by
  have ih0 := nrzi_check.mono_l k
  ·intro y0 y1 y2 y3 y4 y5
   unfold nrzi_check.j0
   repeat' first
   | (with_reducible exact ih0 _ _ _ _ _ _)
   | (with_reducible exact bits_Valid.mono _ _)
   | (with_reducible exact LeO.refl _)
   | (with_reducible exact LeO.none _)
   | (with_reducible refine LeO.ite ?_ ?_)
   | (with_reducible refine LeO.bind ?_ (fun _ => ?_))
   | exact ih0 _ _ _ _ _ _
   | exact bits_Valid.mono _ _
   | exact LeO.none _
   | refine LeO.ite ?_ ?_
   | refine LeO.bind ?_ (fun _ => ?_)
theorem nrzi_check.mono : ∀ a0 a1 a2 a3 a4 k, LeO (nrzi_check.f k a0 a1 a2 a3 a4) (nrzi_check.f (k + 1) a0 a1 a2 a3 a4) := by
 intro a0 a1 a2 a3 a4 k
 have ih0 := nrzi_check.mono_l k
 unfold nrzi_check.f
 repeat' first
   | (with_reducible exact ih0 _ _ _ _ _ _)
   | (with_reducible exact bits_Valid.mono _ _)
   | (with_reducible exact LeO.refl _)
   | (with_reducible exact LeO.none _)
   | (with_reducible refine LeO.ite ?_ ?_)
   | (with_reducible refine LeO.bind ?_ (fun _ => ?_))
   | exact ih0 _ _ _ _ _ _
   | exact bits_Valid.mono _ _
   | exact LeO.none _
   | refine LeO.ite ?_ ?_
   | refine LeO.bind ?_ (fun _ => ?_)
set_option maxHeartbeats 8000000 in
set_option maxRecDepth 100000 in
theorem nrzi_check.calls (k : Nat) (a0_0 : Int) (a0_1 : Int) (a0_2 : Int) (a0_3 : ByteArray) (a0_4 : Int) (r : Int) (w : World) (h : nrzi_check.f k a0_0 a0_1 a0_2 a0_3 a0_4 = some r) :
  Calls Try.prog 29 #[.agg #[.int .i64 a0_0, .int .i64 a0_1, .int .i64 a0_2, .string a0_3, .int .i64 a0_4]] w fun e w' => e = .returned (.int .i64 r) ∧ Below w.heap.size w w' := by
 have hu44 := Try.underlying44; have HB := Aside0.mk (Below.refl w.heap.size w); have H : (if a0_0 < 0 then (nrzi_check.j0 k true a0_0 a0_1 a0_2 a0_3 a0_4) else (nrzi_check.j0 k (decide (a0_0 > 1048576)) a0_0 a0_1 a0_2 a0_3 a0_4)) = some r := h; clear h; have HC2 := Aside0.mk H; clear H
 go_enter Try.func29, Try.ntmps29
 go_upto_region 1 with (first | ((with_reducible refine gate_dst (N := 1) rfl ?_); refine box_event ?hg (N := 1) ?hd (cs := #[.int .i64 a0_0, .int .i64 a0_1, .int .i64 a0_2, .string a0_3, .int .i64 a0_4]) (t := 44) ?hr ?_; (case hd => rfl); (case hg => rfl); (case hr => first | (go_simp; done) | (go_simp; rfl)); intro gb154 hg w3 hbox hb; have n0_ := Aside0.mk (below_step (hbw HB.out) hb); have n1_ := Aside0.mk (hbox); have n2_ := bsz HB hg; have n3_ := bsz HB hg; clear HB; have HB := n0_; have BK154 := n1_; have GW154 := n2_; have GE154 := n3_; clear n0_ n1_ n2_ n3_; clear hb hbox hg))
 (try simp only [Act.put, List.setIfInBounds_toArray, List.set_cons_zero, List.set_cons_succ])
 go_cut [3] (fun v3 wc => ∃ (kq : Nat) (x3_1 : Bool), v3 = .bool x3_1 ∧ Aside0 (nrzi_check.j0 kq x3_1 a0_0 a0_1 a0_2 a0_3 a0_4 = some r) ∧ Aside0 (kq ≤ k) ∧ Aside0 (wc.heap[gb154]? = some (.cells #[.int .i64 a0_0, .int .i64 a0_1, .int .i64 a0_2, .string a0_3, .int .i64 a0_4] 44 (0, 0))) ∧ Aside0 (Below w.heap.size w wc))
 case first =>
  have H := HC2.out; clear HC2
  by_cases c4 : a0_0 < 0
  ·rw [if_pos c4] at H
   have c4b0 : decide (a0_0 < 0) = true := decide_eq_true c4; clear c4
   (first | rw [c4b0] | (simp only [i64_w, i32_w]; rw [c4b0]) | skip)
   have H' := Aside0.mk H; clear H; have hcz5_0 : w3.cell? ⟨gb154, 0, none⟩ = some (.int .i64 a0_0) := ck BK154 0; have hcz5_1 : w3.cell? ⟨gb154, 1, none⟩ = some (.int .i64 a0_1) := ck BK154 1; have hcz5_2 : w3.cell? ⟨gb154, 2, none⟩ = some (.int .i64 a0_2) := ck BK154 2; have hcz5_3 : w3.cell? ⟨gb154, 3, none⟩ = some (.string a0_3) := ck BK154 3; have hcz5_4 : w3.cell? ⟨gb154, 4, none⟩ = some (.int .i64 a0_4) := ck BK154 4; have hfz5_0 := blk_frozen BK154.out 0; have hfz5_1 := blk_frozen BK154.out 1; have hfz5_2 := blk_frozen BK154.out 2; have hfz5_3 := blk_frozen BK154.out 3; have hfz5_4 := blk_frozen BK154.out 4
   go_wp2
   go_meet
   case rel => exact ⟨_, (true), (by first | rfl | (simp; done) | (simp [*]; done)), H', ⟨by first | omega | exact Nat.le_refl _⟩, ⟨by (with_reducible repeat (first | refine blk_drewN ?_ _ | refine blk_drew ?_ | refine blk_alloc ?_ _)); exact BK154.out⟩, ⟨by repeat (first | (with_reducible first | exact HB.out | apply below_alloc | apply pw_below_drewN | apply below_drew1 | refine below_set ?_ GE154.out) | exact HB.out)⟩⟩
  ·rw [if_neg c4] at H
   have c4b0 : decide (a0_0 < 0) = false := decide_eq_false c4; clear c4
   (first | rw [c4b0] | (simp only [i64_w, i32_w]; rw [c4b0]) | skip)
   have H' := Aside0.mk H; clear H; have hcz6_0 : w3.cell? ⟨gb154, 0, none⟩ = some (.int .i64 a0_0) := ck BK154 0; have hcz6_1 : w3.cell? ⟨gb154, 1, none⟩ = some (.int .i64 a0_1) := ck BK154 1; have hcz6_2 : w3.cell? ⟨gb154, 2, none⟩ = some (.int .i64 a0_2) := ck BK154 2; have hcz6_3 : w3.cell? ⟨gb154, 3, none⟩ = some (.string a0_3) := ck BK154 3; have hcz6_4 : w3.cell? ⟨gb154, 4, none⟩ = some (.int .i64 a0_4) := ck BK154 4; have hfz6_0 := blk_frozen BK154.out 0; have hfz6_1 := blk_frozen BK154.out 1; have hfz6_2 := blk_frozen BK154.out 2; have hfz6_3 := blk_frozen BK154.out 3; have hfz6_4 := blk_frozen BK154.out 4
   go_wp2
   go_meet
   case rel => exact ⟨_, (decide (a0_0 > 1048576)), (by first | rfl | (simp; done) | (simp [*]; done)), H', ⟨by first | omega | exact Nat.le_refl _⟩, ⟨by (with_reducible repeat (first | refine blk_drewN ?_ _ | refine blk_drew ?_ | refine blk_alloc ?_ _)); exact BK154.out⟩, ⟨by repeat (first | (with_reducible first | exact HB.out | apply below_alloc | apply pw_below_drewN | apply below_drew1 | refine below_set ?_ GE154.out) | exact HB.out)⟩⟩
 case rest =>
  clear HC2
  try clear c2
  try clear p2
  try clear c4
  try clear c4b0
  try clear hcz5_0
  try clear hcz5_1
  try clear hcz5_2
  try clear hcz5_3
  try clear hcz5_4
  try clear hcz6_0
  try clear hcz6_1
  try clear hcz6_2
  try clear hcz6_3
  try clear hcz6_4
  try clear hfz5_0
  try clear hfz5_1
  try clear hfz5_2
  try clear hfz5_3
  try clear hfz5_4
  try clear hfz6_0
  try clear hfz6_1
  try clear hfz6_2
  try clear hfz6_3
  try clear hfz6_4
  obtain ⟨kq, x3_1, rfl, HA, HJ1, BK154, HB⟩ := hcut
  cases kq with
  | zero => exact absurd HA.out (by simp [nrzi_check.j0])
  | succ kj1 =>
   have H := HA.out; clear HA
   simp only [nrzi_check.j0] at H
   by_cases c7 : x3_1 = true
   ·subst c7
    have H1 : (some 1) = some r := by rw [if_pos rfl] at H; exact H
    clear H; have H := H1; clear H1; obtain rfl := Option.some.inj H
    go_wp2
    go_ret
    exact ⟨by first | rfl | (simp [errW_none, errW_some] <;> rfl) | (simp [*, errW_none, errW_some] <;> rfl), by repeat (first | (with_reducible first | exact HB.out | apply below_alloc | apply pw_below_drewN | apply below_drew1 | refine below_set ?_ GE154.out) | exact HB.out)⟩
   ·replace c7 := Bool.eq_false_iff.mpr c7
    subst c7
    have H1 : (if (a0_3.size : Int) > 4096 then (some 6) else ((bits_Valid.f kj1 a0_3).bind fun t155 => (if t155 = true then (if a0_4 = 0 then (if a0_1 = 0 then (if a0_2 = 0 then (some 0) else (some 1)) else (some 1)) else (some 1)) else (some 4)))) = some r := by rw [if_neg (show ¬ (false = true) by decide)] at H; exact H
    clear H; have H := H1; clear H1
    by_cases c8 : (a0_3.size : Int) > 4096
    ·rw [if_pos c8] at H
     have c8b0 : decide (4096 < (a0_3.size : Int)) = true := decide_eq_true c8; have c8b1 : decide (4096 < a0_3.size) = true := decide_eq_true (by omega); clear c8; obtain rfl := Option.some.inj H; have hcz9_0 : wc.cell? ⟨gb154, 0, none⟩ = some (.int .i64 a0_0) := ck BK154 0; have hcz9_1 : wc.cell? ⟨gb154, 1, none⟩ = some (.int .i64 a0_1) := ck BK154 1; have hcz9_2 : wc.cell? ⟨gb154, 2, none⟩ = some (.int .i64 a0_2) := ck BK154 2; have hcz9_3 : wc.cell? ⟨gb154, 3, none⟩ = some (.string a0_3) := ck BK154 3; have hcz9_4 : wc.cell? ⟨gb154, 4, none⟩ = some (.int .i64 a0_4) := ck BK154 4; have hfz9_0 := blk_frozen BK154.out 0; have hfz9_1 := blk_frozen BK154.out 1; have hfz9_2 := blk_frozen BK154.out 2; have hfz9_3 := blk_frozen BK154.out 3; have hfz9_4 := blk_frozen BK154.out 4
     go_wp2
     go_ret
     exact ⟨by first | rfl | (simp [errW_none, errW_some] <;> rfl) | (simp [*, errW_none, errW_some] <;> rfl), by repeat (first | (with_reducible first | exact HB.out | apply below_alloc | apply pw_below_drewN | apply below_drew1 | refine below_set ?_ GE154.out) | exact HB.out)⟩
    ·rw [if_neg c8] at H
     have c8b0 : decide (4096 < (a0_3.size : Int)) = false := decide_eq_false c8; have c8b1 : decide (4096 < a0_3.size) = false := decide_eq_false (by omega); clear c8; replace H := Option.bind_eq_some_iff.mp H; obtain ⟨t155, A100, H⟩ := H; replace H : (if t155 = true then (if a0_4 = 0 then (if a0_1 = 0 then (if a0_2 = 0 then (some 0) else (some 1)) else (some 1)) else (some 1)) else (some 4)) = some r := H; have A10 := Aside0.mk A100; clear A100
     by_cases c11 : t155 = true
     ·subst c11
      have H1 : (if a0_4 = 0 then (if a0_1 = 0 then (if a0_2 = 0 then (some 0) else (some 1)) else (some 1)) else (some 1)) = some r := by rw [if_pos rfl] at H; exact H
      clear H; have H := H1; clear H1
      by_cases c12 : a0_4 = 0
      ·rw [if_pos c12] at H
       have c12b0 : (a0_4 == 0) = true := beq_iff_eq.mpr c12; have c12b1 : (a0_4 != 0) = false := bne_eq_false_iff_eq.mpr c12; clear c12
       by_cases c13 : a0_1 = 0
       ·rw [if_pos c13] at H
        have c13b0 : (a0_1 == 0) = true := beq_iff_eq.mpr c13; have c13b1 : (a0_1 != 0) = false := bne_eq_false_iff_eq.mpr c13; clear c13
        by_cases c14 : a0_2 = 0
        ·rw [if_pos c14] at H
         have c14b0 : (a0_2 == 0) = true := beq_iff_eq.mpr c14; have c14b1 : (a0_2 != 0) = false := bne_eq_false_iff_eq.mpr c14; clear c14; obtain rfl := Option.some.inj H; have hcz15_0 : wc.cell? ⟨gb154, 0, none⟩ = some (.int .i64 a0_0) := ck BK154 0; have hcz15_1 : wc.cell? ⟨gb154, 1, none⟩ = some (.int .i64 a0_1) := ck BK154 1; have hcz15_2 : wc.cell? ⟨gb154, 2, none⟩ = some (.int .i64 a0_2) := ck BK154 2; have hcz15_3 : wc.cell? ⟨gb154, 3, none⟩ = some (.string a0_3) := ck BK154 3; have hcz15_4 : wc.cell? ⟨gb154, 4, none⟩ = some (.int .i64 a0_4) := ck BK154 4; have hfz15_0 := blk_frozen BK154.out 0; have hfz15_1 := blk_frozen BK154.out 1; have hfz15_2 := blk_frozen BK154.out 2; have hfz15_3 := blk_frozen BK154.out 3; have hfz15_4 := blk_frozen BK154.out 4
         go_wp2_with (first | ((with_reducible refine gate_callee (f := 34) rfl ?_); refine goesL_ (some 20) rfl rfl Try.func34 (by kernel_rfl) rfl #[.string a0_3] rfl (by (try simp only [List.map_toArray, List.map_cons, List.map_nil]); first | done | rfl | (simp only [List.length_drop, List.length_take]; rfl)) ?_; (with_reducible refine (bits_Valid.calls kj1 a0_3 true _ A10.out).mono ?_); rintro e w' ⟨rfl, ⟨nd, rfl⟩⟩; refine ⟨_, rfl, ?_⟩))
         go_ret
         exact ⟨by first | rfl | (simp [errW_none, errW_some] <;> rfl) | (simp [*, errW_none, errW_some] <;> rfl), by repeat (first | (with_reducible first | exact HB.out | apply below_alloc | apply pw_below_drewN | apply below_drew1 | refine below_set ?_ GE154.out) | exact HB.out)⟩
        ·rw [if_neg c14] at H
         have c14b0 : (a0_2 == 0) = false := beq_eq_false_iff_ne.mpr c14; have c14b1 : (a0_2 != 0) = true := bne_iff_ne.mpr c14; obtain rfl := Option.some.inj H; have hcz16_0 : wc.cell? ⟨gb154, 0, none⟩ = some (.int .i64 a0_0) := ck BK154 0; have hcz16_1 : wc.cell? ⟨gb154, 1, none⟩ = some (.int .i64 a0_1) := ck BK154 1; have hcz16_2 : wc.cell? ⟨gb154, 2, none⟩ = some (.int .i64 a0_2) := ck BK154 2; have hcz16_3 : wc.cell? ⟨gb154, 3, none⟩ = some (.string a0_3) := ck BK154 3; have hcz16_4 : wc.cell? ⟨gb154, 4, none⟩ = some (.int .i64 a0_4) := ck BK154 4; have hfz16_0 := blk_frozen BK154.out 0; have hfz16_1 := blk_frozen BK154.out 1; have hfz16_2 := blk_frozen BK154.out 2; have hfz16_3 := blk_frozen BK154.out 3; have hfz16_4 := blk_frozen BK154.out 4
         go_wp2_with (first | ((with_reducible refine gate_callee (f := 34) rfl ?_); refine goesL_ (some 20) rfl rfl Try.func34 (by kernel_rfl) rfl #[.string a0_3] rfl (by (try simp only [List.map_toArray, List.map_cons, List.map_nil]); first | done | rfl | (simp only [List.length_drop, List.length_take]; rfl)) ?_; (with_reducible refine (bits_Valid.calls kj1 a0_3 true _ A10.out).mono ?_); rintro e w' ⟨rfl, ⟨nd, rfl⟩⟩; refine ⟨_, rfl, ?_⟩))
         go_ret
         exact ⟨by first | rfl | (simp [errW_none, errW_some] <;> rfl) | (simp [*, errW_none, errW_some] <;> rfl), by repeat (first | (with_reducible first | exact HB.out | apply below_alloc | apply pw_below_drewN | apply below_drew1 | refine below_set ?_ GE154.out) | exact HB.out)⟩
       ·rw [if_neg c13] at H
        have c13b0 : (a0_1 == 0) = false := beq_eq_false_iff_ne.mpr c13; have c13b1 : (a0_1 != 0) = true := bne_iff_ne.mpr c13; obtain rfl := Option.some.inj H; have hcz17_0 : wc.cell? ⟨gb154, 0, none⟩ = some (.int .i64 a0_0) := ck BK154 0; have hcz17_1 : wc.cell? ⟨gb154, 1, none⟩ = some (.int .i64 a0_1) := ck BK154 1; have hcz17_2 : wc.cell? ⟨gb154, 2, none⟩ = some (.int .i64 a0_2) := ck BK154 2; have hcz17_3 : wc.cell? ⟨gb154, 3, none⟩ = some (.string a0_3) := ck BK154 3; have hcz17_4 : wc.cell? ⟨gb154, 4, none⟩ = some (.int .i64 a0_4) := ck BK154 4; have hfz17_0 := blk_frozen BK154.out 0; have hfz17_1 := blk_frozen BK154.out 1; have hfz17_2 := blk_frozen BK154.out 2; have hfz17_3 := blk_frozen BK154.out 3; have hfz17_4 := blk_frozen BK154.out 4
        go_wp2_with (first | ((with_reducible refine gate_callee (f := 34) rfl ?_); refine goesL_ (some 20) rfl rfl Try.func34 (by kernel_rfl) rfl #[.string a0_3] rfl (by (try simp only [List.map_toArray, List.map_cons, List.map_nil]); first | done | rfl | (simp only [List.length_drop, List.length_take]; rfl)) ?_; (with_reducible refine (bits_Valid.calls kj1 a0_3 true _ A10.out).mono ?_); rintro e w' ⟨rfl, ⟨nd, rfl⟩⟩; refine ⟨_, rfl, ?_⟩))
        go_ret
        exact ⟨by first | rfl | (simp [errW_none, errW_some] <;> rfl) | (simp [*, errW_none, errW_some] <;> rfl), by repeat (first | (with_reducible first | exact HB.out | apply below_alloc | apply pw_below_drewN | apply below_drew1 | refine below_set ?_ GE154.out) | exact HB.out)⟩
      ·rw [if_neg c12] at H
       have c12b0 : (a0_4 == 0) = false := beq_eq_false_iff_ne.mpr c12; have c12b1 : (a0_4 != 0) = true := bne_iff_ne.mpr c12; obtain rfl := Option.some.inj H; have hcz18_0 : wc.cell? ⟨gb154, 0, none⟩ = some (.int .i64 a0_0) := ck BK154 0; have hcz18_1 : wc.cell? ⟨gb154, 1, none⟩ = some (.int .i64 a0_1) := ck BK154 1; have hcz18_2 : wc.cell? ⟨gb154, 2, none⟩ = some (.int .i64 a0_2) := ck BK154 2; have hcz18_3 : wc.cell? ⟨gb154, 3, none⟩ = some (.string a0_3) := ck BK154 3; have hcz18_4 : wc.cell? ⟨gb154, 4, none⟩ = some (.int .i64 a0_4) := ck BK154 4; have hfz18_0 := blk_frozen BK154.out 0; have hfz18_1 := blk_frozen BK154.out 1; have hfz18_2 := blk_frozen BK154.out 2; have hfz18_3 := blk_frozen BK154.out 3; have hfz18_4 := blk_frozen BK154.out 4
       go_wp2_with (first | ((with_reducible refine gate_callee (f := 34) rfl ?_); refine goesL_ (some 20) rfl rfl Try.func34 (by kernel_rfl) rfl #[.string a0_3] rfl (by (try simp only [List.map_toArray, List.map_cons, List.map_nil]); first | done | rfl | (simp only [List.length_drop, List.length_take]; rfl)) ?_; (with_reducible refine (bits_Valid.calls kj1 a0_3 true _ A10.out).mono ?_); rintro e w' ⟨rfl, ⟨nd, rfl⟩⟩; refine ⟨_, rfl, ?_⟩))
       go_ret
       exact ⟨by first | rfl | (simp [errW_none, errW_some] <;> rfl) | (simp [*, errW_none, errW_some] <;> rfl), by repeat (first | (with_reducible first | exact HB.out | apply below_alloc | apply pw_below_drewN | apply below_drew1 | refine below_set ?_ GE154.out) | exact HB.out)⟩
     ·replace c11 := Bool.eq_false_iff.mpr c11
      subst c11
      have H1 : (some 4) = some r := by rw [if_neg (show ¬ (false = true) by decide)] at H; exact H
      clear H; have H := H1; clear H1; obtain rfl := Option.some.inj H; have hcz19_0 : wc.cell? ⟨gb154, 0, none⟩ = some (.int .i64 a0_0) := ck BK154 0; have hcz19_1 : wc.cell? ⟨gb154, 1, none⟩ = some (.int .i64 a0_1) := ck BK154 1; have hcz19_2 : wc.cell? ⟨gb154, 2, none⟩ = some (.int .i64 a0_2) := ck BK154 2; have hcz19_3 : wc.cell? ⟨gb154, 3, none⟩ = some (.string a0_3) := ck BK154 3; have hcz19_4 : wc.cell? ⟨gb154, 4, none⟩ = some (.int .i64 a0_4) := ck BK154 4; have hfz19_0 := blk_frozen BK154.out 0; have hfz19_1 := blk_frozen BK154.out 1; have hfz19_2 := blk_frozen BK154.out 2; have hfz19_3 := blk_frozen BK154.out 3; have hfz19_4 := blk_frozen BK154.out 4
      go_wp2_with (first | ((with_reducible refine gate_callee (f := 34) rfl ?_); refine goesL_ (some 20) rfl rfl Try.func34 (by kernel_rfl) rfl #[.string a0_3] rfl (by (try simp only [List.map_toArray, List.map_cons, List.map_nil]); first | done | rfl | (simp only [List.length_drop, List.length_take]; rfl)) ?_; (with_reducible refine (bits_Valid.calls kj1 a0_3 false _ A10.out).mono ?_); rintro e w' ⟨rfl, ⟨nd, rfl⟩⟩; refine ⟨_, rfl, ?_⟩))
      go_ret
      exact ⟨by first | rfl | (simp [errW_none, errW_some] <;> rfl) | (simp [*, errW_none, errW_some] <;> rfl), by repeat (first | (with_reducible first | exact HB.out | apply below_alloc | apply pw_below_drewN | apply below_drew1 | refine below_set ?_ GE154.out) | exact HB.out)⟩

/-! ### nrzi_Encode: function 20 -/
mutual
def nrzi_Encode.j0 : Nat → List (S44) → Bool → Option ((List (S44)) × Int)
 | 0, _, _ => none
 | k + 1, x1, x157000 => if 0 ≤ (x1.length : Int) then (if ((x1.length : Int) : Int).toNat ≤ 5864062014805 then (nrzi_Encode.l0 k (List.replicate 0 z44) x1 (x1.length : Int) 0 x157000 1 0 0 (⟨#[]⟩ : ByteArray) 0) else (none)) else (none)
def nrzi_Encode.l0 : Nat → List (S44) → List (S44) → Int → Int → Bool → Int → Int → Int → ByteArray → Int → Option ((List (S44)) × Int)
 | 0, _, _, _, _, _, _, _, _, _, _ => none
 | k + 1, x7, x21, x22, x23, x158000, x159000, x159001, x159002, x159003, x159004 => if x23 < x22 then (nrzi_Encode.j2 k x7 x21 x22 x23 x158000 x159000 x159001 x159002 x159003 x159004) else (some (x7, 0))
def nrzi_Encode.j2 : Nat → List (S44) → List (S44) → Int → Int → Bool → Int → Int → Int → ByteArray → Int → Option ((List (S44)) × Int)
 | 0, _, _, _, _, _, _, _, _, _, _ => none
 | k + 1, x7, x21, x22, x23, x158000, x159000, x159001, x159002, x159003, x159004 => if 0 ≤ x23 then (if x23 < (x21.length : Int) then ((nrzi_check.f k ((rd_T44 x21 x23).f0) ((rd_T44 x21 x23).f1) ((rd_T44 x21 x23).f2) ((rd_T44 x21 x23).f3) ((rd_T44 x21 x23).f4)).bind fun t164 => (if t164 = 0 then (if 0 ≤ (((rd_T44 x21 x23).f3).size : Int) then (if ((((rd_T44 x21 x23).f3).size : Int) : Int).toNat ≤ 281474976710656 then ((some (List.replicate ((((rd_T44 x21 x23).f3).size : Int) : Int).toNat 0 : List Int)).bind fun y165 => (nrzi_Encode.l1 k x7 y165 x21 x22 x23 (y165.length : Int) 0 x158000 x159000 x159001 x159002 x159003 x159004 ((rd_T44 x21 x23).f0) ((rd_T44 x21 x23).f1) ((rd_T44 x21 x23).f2) ((rd_T44 x21 x23).f3) ((rd_T44 x21 x23).f4))) else (none)) else (none)) else (some (([] : List (S44)), t164)))) else (none)) else (none)
def nrzi_Encode.l1 : Nat → List (S44) → List Int → List (S44) → Int → Int → Int → Int → Bool → Int → Int → Int → ByteArray → Int → Int → Int → Int → ByteArray → Int → Option ((List (S44)) × Int)
 | 0, _, _, _, _, _, _, _, _, _, _, _, _, _, _, _, _, _, _ => none
 | k + 1, x7, x11, x21, x22, x23, x37, x38, x158000, x159000, x159001, x159002, x159003, x159004, x164000, x164001, x164002, x164003, x164004 => if x38 < x37 then (if 0 ≤ x38 then (if x38 < (x164003.size : Int) then ((nrzi_sender_1.f x158000 x159000 (((bt x164003 x38) - 48) % 256)).bind fun t168 => (if x38 < (x11.length : Int) then (nrzi_Encode.l1 k x7 (x11.set (x38 : Int).toNat ((48 + ((t168) % 256)) % 256)) x21 x22 x23 x37 (wrap64 (x38 + 1)) x158000 t168 x159001 x159002 x159003 x159004 x164000 x164001 x164002 x164003 x164004) else (none))) else (none)) else (none)) else (if x7.length < 2932031007402 then (nrzi_Encode.l0 k (x7 ++ [(⟨x164000, 0, 0, strOfNums x11, 0⟩ : S44)]) x21 x22 (wrap64 (x23 + 1)) x158000 x159000 x159001 x159002 x159003 x159004) else (none))
end
def nrzi_Encode.f (k : Nat) (a0_0 : Bool) (l1 : List (S44)) : Option ((List (S44)) × Int) := if (l1.length : Int) > 1024 then (some (([] : List (S44)), 6)) else (nrzi_Encode.j0 k l1 a0_0)
theorem nrzi_Encode.mono_l : ∀ k, (∀ y0 y1, LeO (nrzi_Encode.j0 k y0 y1) (nrzi_Encode.j0 (k + 1) y0 y1)) ∧ (∀ y0 y1 y2 y3 y4 y5 y6 y7 y8 y9, LeO (nrzi_Encode.l0 k y0 y1 y2 y3 y4 y5 y6 y7 y8 y9) (nrzi_Encode.l0 (k + 1) y0 y1 y2 y3 y4 y5 y6 y7 y8 y9)) ∧ (∀ y0 y1 y2 y3 y4 y5 y6 y7 y8 y9, LeO (nrzi_Encode.j2 k y0 y1 y2 y3 y4 y5 y6 y7 y8 y9) (nrzi_Encode.j2 (k + 1) y0 y1 y2 y3 y4 y5 y6 y7 y8 y9)) ∧ (∀ y0 y1 y2 y3 y4 y5 y6 y7 y8 y9 y10 y11 y12 y13 y14 y15 y16 y17, LeO (nrzi_Encode.l1 k y0 y1 y2 y3 y4 y5 y6 y7 y8 y9 y10 y11 y12 y13 y14 y15 y16 y17) (nrzi_Encode.l1 (k + 1) y0 y1 y2 y3 y4 y5 y6 y7 y8 y9 y10 y11 y12 y13 y14 y15 y16 y17))
 | 0 => ⟨fun _ _ r h => by simp [nrzi_Encode.j0] at h, fun _ _ _ _ _ _ _ _ _ _ r h => by simp [nrzi_Encode.l0] at h, fun _ _ _ _ _ _ _ _ _ _ r h => by simp [nrzi_Encode.j2] at h, fun _ _ _ _ _ _ _ _ _ _ _ _ _ _ _ _ _ _ r h => by simp [nrzi_Encode.l1] at h⟩
 | k + 1 => by
  obtain ⟨ih0, ih1, ih2, ih3⟩ := nrzi_Encode.mono_l k; refine ⟨?_, ?_, ?_, ?_⟩
  ·intro y0 y1
   unfold nrzi_Encode.j0
   repeat' first
   | (with_reducible exact ih0 _ _)
   | (with_reducible exact ih1 _ _ _ _ _ _ _ _ _ _)
   | (with_reducible exact ih2 _ _ _ _ _ _ _ _ _ _)
   | (with_reducible exact ih3 _ _ _ _ _ _ _ _ _ _ _ _ _ _ _ _ _ _)
   | (with_reducible exact nrzi_check.mono _ _ _ _ _ _)
   | (with_reducible exact LeO.refl _)
   | (with_reducible exact LeO.none _)
   | (with_reducible refine LeO.ite ?_ ?_)
   | (with_reducible refine LeO.bind ?_ (fun _ => ?_))
   | exact ih0 _ _
   | exact ih1 _ _ _ _ _ _ _ _ _ _
   | exact ih2 _ _ _ _ _ _ _ _ _ _
   | exact ih3 _ _ _ _ _ _ _ _ _ _ _ _ _ _ _ _ _ _
   | exact nrzi_check.mono _ _ _ _ _ _
   | exact LeO.none _
   | refine LeO.ite ?_ ?_
   | refine LeO.bind ?_ (fun _ => ?_)
  ·intro y0 y1 y2 y3 y4 y5 y6 y7 y8 y9
   unfold nrzi_Encode.l0
   repeat' first
   | (with_reducible exact ih0 _ _)
   | (with_reducible exact ih1 _ _ _ _ _ _ _ _ _ _)
   | (with_reducible exact ih2 _ _ _ _ _ _ _ _ _ _)
   | (with_reducible exact ih3 _ _ _ _ _ _ _ _ _ _ _ _ _ _ _ _ _ _)
   | (with_reducible exact nrzi_check.mono _ _ _ _ _ _)
   | (with_reducible exact LeO.refl _)
   | (with_reducible exact LeO.none _)
   | (with_reducible refine LeO.ite ?_ ?_)
   | (with_reducible refine LeO.bind ?_ (fun _ => ?_))
   | exact ih0 _ _
   | exact ih1 _ _ _ _ _ _ _ _ _ _
   | exact ih2 _ _ _ _ _ _ _ _ _ _
   | exact ih3 _ _ _ _ _ _ _ _ _ _ _ _ _ _ _ _ _ _
   | exact nrzi_check.mono _ _ _ _ _ _
   | exact LeO.none _
   | refine LeO.ite ?_ ?_
   | refine LeO.bind ?_ (fun _ => ?_)
  ·intro y0 y1 y2 y3 y4 y5 y6 y7 y8 y9
   unfold nrzi_Encode.j2
   repeat' first
   | (with_reducible exact ih0 _ _)
   | (with_reducible exact ih1 _ _ _ _ _ _ _ _ _ _)
   | (with_reducible exact ih2 _ _ _ _ _ _ _ _ _ _)
   | (with_reducible exact ih3 _ _ _ _ _ _ _ _ _ _ _ _ _ _ _ _ _ _)
   | (with_reducible exact nrzi_check.mono _ _ _ _ _ _)
   | (with_reducible exact LeO.refl _)
   | (with_reducible exact LeO.none _)
   | (with_reducible refine LeO.ite ?_ ?_)
   | (with_reducible refine LeO.bind ?_ (fun _ => ?_))
   | exact ih0 _ _
   | exact ih1 _ _ _ _ _ _ _ _ _ _
   | exact ih2 _ _ _ _ _ _ _ _ _ _
   | exact ih3 _ _ _ _ _ _ _ _ _ _ _ _ _ _ _ _ _ _
   | exact nrzi_check.mono _ _ _ _ _ _
   | exact LeO.none _
   | refine LeO.ite ?_ ?_
   | refine LeO.bind ?_ (fun _ => ?_)
  ·intro y0 y1 y2 y3 y4 y5 y6 y7 y8 y9 y10 y11 y12 y13 y14 y15 y16 y17
   unfold nrzi_Encode.l1
   repeat' first
   | (with_reducible exact ih0 _ _)
   | (with_reducible exact ih1 _ _ _ _ _ _ _ _ _ _)
   | (with_reducible exact ih2 _ _ _ _ _ _ _ _ _ _)
   | (with_reducible exact ih3 _ _ _ _ _ _ _ _ _ _ _ _ _ _ _ _ _ _)
   | (with_reducible exact nrzi_check.mono _ _ _ _ _ _)
   | (with_reducible exact LeO.refl _)
   | (with_reducible exact LeO.none _)
   | (with_reducible refine LeO.ite ?_ ?_)
   | (with_reducible refine LeO.bind ?_ (fun _ => ?_))
   | exact ih0 _ _
   | exact ih1 _ _ _ _ _ _ _ _ _ _
   | exact ih2 _ _ _ _ _ _ _ _ _ _
   | exact ih3 _ _ _ _ _ _ _ _ _ _ _ _ _ _ _ _ _ _
   | exact nrzi_check.mono _ _ _ _ _ _
   | exact LeO.none _
   | refine LeO.ite ?_ ?_
   | refine LeO.bind ?_ (fun _ => ?_)
theorem nrzi_Encode.mono : ∀ a0 a1 k, LeO (nrzi_Encode.f k a0 a1) (nrzi_Encode.f (k + 1) a0 a1) := by
 intro a0 a1 k; obtain ⟨ih0, ih1, ih2, ih3⟩ := nrzi_Encode.mono_l k
 unfold nrzi_Encode.f
 repeat' first
   | (with_reducible exact ih0 _ _)
   | (with_reducible exact ih1 _ _ _ _ _ _ _ _ _ _)
   | (with_reducible exact ih2 _ _ _ _ _ _ _ _ _ _)
   | (with_reducible exact ih3 _ _ _ _ _ _ _ _ _ _ _ _ _ _ _ _ _ _)
   | (with_reducible exact nrzi_check.mono _ _ _ _ _ _)
   | (with_reducible exact LeO.refl _)
   | (with_reducible exact LeO.none _)
   | (with_reducible refine LeO.ite ?_ ?_)
   | (with_reducible refine LeO.bind ?_ (fun _ => ?_))
   | exact ih0 _ _
   | exact ih1 _ _ _ _ _ _ _ _ _ _
   | exact ih2 _ _ _ _ _ _ _ _ _ _
   | exact ih3 _ _ _ _ _ _ _ _ _ _ _ _ _ _ _ _ _ _
   | exact nrzi_check.mono _ _ _ _ _ _
   | exact LeO.none _
   | refine LeO.ite ?_ ?_
   | refine LeO.bind ?_ (fun _ => ?_)
set_option maxHeartbeats 8000000 in
set_option maxRecDepth 100000 in
theorem nrzi_Encode.calls (k : Nat) (a0_0 : Bool) (A1 : Option Addr) (c1 : Nat) (l1 : List (S44)) (r1 : List (S44)) (r2 : Int) (w : World) (hr1 : Kd.C k44 w A1 l1.length l1) (hc1 : l1.length ≤ c1) (h : nrzi_Encode.f k a0_0 l1 = some (r1, r2)) :
  Calls Try.prog 20 #[.agg #[.bool a0_0], .slice A1 l1.length c1] w fun e w' => ∃ v0_ : Value, e = .returned (.tuple #[v0_, .int .i64 r2]) ∧ Kd.R k44 44 w' w.heap.size (fun _ => True) v0_ r1 ∧ Below w.heap.size w w' := by
 have hu23 := Try.underlying23; have hu44 := Try.underlying44; have HR1 := Aside0.mk hr1; have HC1 := Aside0.mk hc1; clear hr1 hc1; have HB := Aside0.mk (Below.refl w.heap.size w); have H : (if (l1.length : Int) > 1024 then (some (([] : List (S44)), 6)) else (nrzi_Encode.j0 k l1 a0_0)) = some (r1, r2) := h; clear h; have HC3 := Aside0.mk H; clear H
 go_enter Try.func20, Try.ntmps20
 go_upto_if 15 with (first | ((with_reducible refine gate_dst (N := 2) rfl ?_); refine box_event ?hg (N := 2) ?hd (cs := #[.bool a0_0]) (t := 23) ?hr ?_; (case hd => rfl); (case hg => rfl); (case hr => first | (go_simp; done) | (go_simp; rfl)); intro gb156 hg w4 hbox hb; have n0_ := Aside0.mk (below_step (hbw HB.out) hb); have n1_ := Aside0.mk (hbox); have n2_ := bsz HB hg; have n3_ := bsz HB hg; clear HB; have HB := n0_; have BK156 := n1_; have GW156 := n2_; have GE156 := n3_; clear n0_ n1_ n2_ n3_; clear hb hbox hg))
 (try simp only [Act.put, List.setIfInBounds_toArray, List.set_cons_zero, List.set_cons_succ])
 go_cut [] (fun wc => ∃ (kq : Nat), Aside0 (nrzi_Encode.j0 kq l1 a0_0 = some (r1, r2)) ∧ Aside0 (kq ≤ k) ∧ Aside0 (wc.heap[gb156]? = some (.cells #[.bool a0_0] 23 (0, 0))) ∧ Aside0 (Below w.heap.size w wc))
 case first =>
  have H := HC3.out; clear HC3
  by_cases c5 : (l1.length : Int) > 1024
  ·rw [if_pos c5] at H
   have c5b0 : decide (1024 < (l1.length : Int)) = true := decide_eq_true c5; have c5b1 : decide (1024 < l1.length) = true := decide_eq_true (by omega); clear c5
   (first | rw [c5b0] | (simp only [i64_w, i32_w]; rw [c5b0]) | skip)
   simp only [Option.some.injEq, Prod.mk.injEq] at H
   obtain ⟨rfl, rfl⟩ := H
   go_wp2
   go_ret2
   exact ⟨_, by first | rfl | (simp [errW_none, errW_some] <;> rfl) | (simp [*, errW_none, errW_some] <;> rfl), by first | exact Kd.R_nil _ _ _ _ _ | exact Kd.N_nil _ _ _ _ _ | exact Kd.V_nil _ _ _ _ _ | exact Kd.Q_nil _ _ _ _ _ | exact Kd.S_nil _ _ _ _ _, by repeat (first | (with_reducible first | exact HB.out | apply below_alloc | apply pw_below_drewN | apply below_drew1 | refine below_set ?_ GE156.out) | exact HB.out)⟩
  ·rw [if_neg c5] at H
   have c5b0 : decide (1024 < (l1.length : Int)) = false := decide_eq_false c5; have c5b1 : decide (1024 < l1.length) = false := decide_eq_false (by omega); clear c5
   (first | rw [c5b0] | (simp only [i64_w, i32_w]; rw [c5b0]) | skip)
   have H' := Aside0.mk H; clear H
   go_wp2
   go_meet
   case rel => exact ⟨_, H', ⟨by first | omega | exact Nat.le_refl _⟩, ⟨by (with_reducible repeat (first | refine blk_drewN ?_ _ | refine blk_drew ?_ | refine blk_alloc ?_ _)); exact BK156.out⟩, ⟨by repeat (first | (with_reducible first | exact HB.out | apply below_alloc | apply pw_below_drewN | apply below_drew1 | refine below_set ?_ GE156.out) | exact HB.out)⟩⟩
 case rest =>
  clear HC3
  try clear c1
  try clear c2
  try clear p2
  try clear c5
  try clear c5b0
  try clear c5b1
  obtain ⟨kq, HA, HJ2, BK156, HB⟩ := hcut
  cases kq with
  | zero => exact absurd HA.out (by simp [nrzi_Encode.j0])
  | succ kj2 =>
   have H := HA.out; clear HA
   simp only [nrzi_Encode.j0] at H
   by_cases c6 : 0 ≤ (l1.length : Int)
   ·rw [if_pos c6] at H
    have c6b0 := eq_true c6; have c6b1 : decide (0 ≤ (l1.length : Int)) = true := decide_eq_true c6; clear c6
    by_cases c7 : ((l1.length : Int) : Int).toNat ≤ 5864062014805
    ·rw [if_pos c7] at H
     have c7b0 := eq_true c7; have c7b1 : decide (((l1.length : Int) : Int).toNat ≤ 5864062014805) = true := decide_eq_true c7; clear c7; obtain ⟨y159, hy159⟩ : ∃ y_ : List (S44), y_ = (List.replicate 0 z44) := ⟨_, rfl⟩
     replace H : (nrzi_Encode.l0 kj2 y159 l1 (l1.length : Int) 0 a0_0 1 0 0 (⟨#[]⟩ : ByteArray) 0) = some (r1, r2) := by first | (rw [hy159]; with_reducible exact H) | (have H2_ := (Option.bind_some _ _).symm.trans H; rw [hy159]; with_reducible exact H2_) | (have H2_ := (Option.bind_some _ _).symm.trans H; with_reducible exact H2_) | with_reducible exact H | (rw [hy159]; exact H) | exact H
     have Ny159 := Aside0.mk hy159; clear hy159; have H' := Aside0.mk H; clear H; have hcz8_0 : wc.cell? ⟨gb156, 0, none⟩ = some (.bool a0_0) := ck BK156 0; have hfz8_0 := blk_frozen BK156.out 0
     go_wp2_with (first | ((with_reducible refine gate_callee (f := 28) rfl ?_); refine goesL_ (some 17) rfl rfl Try.func28 (by kernel_rfl) rfl #[.agg #[.bool a0_0]] rfl (by (try simp only [List.map_toArray, List.map_cons, List.map_nil]); first | done | rfl) ?_; (refine (nrzi_sender.calls a0_0 _).mono ?_); rintro e w10 ⟨gb157, gb158, rfl, hg1, hg2, hne, hb1, hb2, hb⟩; refine ⟨_, rfl, ?_⟩; have n0_ := Aside0.mk (blkb BK156.out hb); have n1_ := Aside0.mk (hb1); have n2_ := Aside0.mk (hb2); have n3_ := Aside0.mk ((Nat.le_trans (below_size (hbw HB.out)) hg1 : w.heap.size ≤ gb157)); have n4_ := Aside0.mk ((Nat.le_trans (below_size (hbw HB.out)) hg2 : w.heap.size ≤ gb158)); have n5_ := Aside0.mk ((Nat.ne_of_lt (Nat.lt_of_lt_of_le (blkl BK156.out) hg1) : gb156 ≠ gb157)); have n6_ := Aside0.mk ((Nat.ne_of_gt (Nat.lt_of_lt_of_le (blkl BK156.out) hg1) : gb157 ≠ gb156)); have n7_ := Aside0.mk ((Nat.ne_of_lt (Nat.lt_of_lt_of_le (blkl BK156.out) hg2) : gb156 ≠ gb158)); have n8_ := Aside0.mk ((Nat.ne_of_gt (Nat.lt_of_lt_of_le (blkl BK156.out) hg2) : gb158 ≠ gb156)); have n9_ := Aside0.mk (hne); have n10_ := Aside0.mk (hne.symm); have n11_ := Aside0.mk (below_step (hbw HB.out) hb); clear BK156; clear HB; have BK156 := n0_; have BK157 := n1_; have BK158 := n2_; have GW157 := n3_; have GE157 := n3_; have GW158 := n4_; have GE158 := n4_; have NB156_157 := n5_; have NB157_156 := n6_; have NB156_158 := n7_; have NB158_156 := n8_; have NB157_158 := n9_; have NB158_157 := n10_; have HB := n11_; clear n0_ n1_ n2_ n3_ n4_ n5_ n6_ n7_ n8_ n9_ n10_ n11_; clear hb hb1 hb2 hg1 hg2 hne) | ((with_reducible refine gate_dst (N := 20) rfl ?_); refine Kd.R_makeC k44 _ 44 rfl (N := 20) rfl 38 _ _ rfl 0 (l1.length : Int) rfl rfl Try.underlying38 (.agg #[(.int .i64 0), (.int .i64 0), (.int .i64 0), (.string ⟨#[]⟩), (.int .i64 0)]) 48 info44 rfl (by decide) (by omega) z44 (ok := fun _ => True) (okp := fun _ => True) (k44_mkM _ _ _ z44 ) (fun _ hk => hk) trivial (Int.le_refl 0) (of_decide_eq_true (by first | (with_reducible assumption) | assumption)) (Nat.le_trans (Nat.mul_le_mul_right _ (of_decide_eq_true (by first | (with_reducible assumption) | assumption) : (l1.length : Int).toNat ≤ 5864062014805)) (by omega)) (Below.refl _ _) (Nat.le_refl _) ?_; intro v160 w14 ho15 hb hg_ hnew_; clear hg_ hnew_; (first | rw [← Ny159.out] at ho15 | (simp only [Int.reduceToNat] at ho15; rw [← Ny159.out] at ho15)); have n0_ := Aside0.mk (Kd.R_lower (Kd.R_newB ho15 (g := gb158) (o := .cells #[.int .i64 1] 3 (0, 0)) (by (with_reducible repeat (first | refine blk_drewN ?_ _ | refine blk_drew ?_ | refine blk_alloc ?_ _)); exact BK158.out)) (below_size (hbw HB.out))); have n1_ := Aside0.mk (blk_below (g := gb156) (o := .cells #[.bool a0_0] 23 (0, 0)) (by (with_reducible repeat (first | refine blk_drewN ?_ _ | refine blk_drew ?_ | refine blk_alloc ?_ _)); exact BK156.out) hb); have n2_ := Aside0.mk (blk_below (g := gb157) (o := .cells #[.bool a0_0] 23 (0, 0)) (by (with_reducible repeat (first | refine blk_drewN ?_ _ | refine blk_drew ?_ | refine blk_alloc ?_ _)); exact BK157.out) hb); have n3_ := Aside0.mk (blk_below (g := gb158) (o := .cells #[.int .i64 1] 3 (0, 0)) (by (with_reducible repeat (first | refine blk_drewN ?_ _ | refine blk_drew ?_ | refine blk_alloc ?_ _)); exact BK158.out) hb); have n4_ := Aside0.mk (below_step (hbw HB.out) hb); clear BK156; clear BK157; clear BK158; clear HB; have HO161 := n0_; have BK156 := n1_; have BK157 := n2_; have BK158 := n3_; have HB := n4_; clear n0_ n1_ n2_ n3_ n4_; clear hb ho15))
     go_loopg [7, 23] kj2 (fun kq v7 v23 w' => ∃ (x7_2 : List (S44)) (x23_2 : Int) (x159000_2 : Int), v23 = .int .i64 x23_2 ∧ Aside0 (nrzi_Encode.l0 kq x7_2 l1 (l1.length : Int) x23_2 a0_0 x159000_2 0 0 (⟨#[]⟩ : ByteArray) 0 = some (r1, r2)) ∧ Aside0 (kq ≤ kj2) ∧ Aside0 (Kd.R k44 44 w' w.heap.size (fun k_ => k_ ≠ gb158) v7 x7_2) ∧ Aside0 (w'.heap[gb156]? = some (.cells #[.bool a0_0] 23 (0, 0))) ∧ Aside0 (w'.heap[gb157]? = some (.cells #[.bool a0_0] 23 (0, 0))) ∧ Aside0 (w'.heap[gb158]? = some (.cells #[.int .i64 x159000_2] 3 (0, 0))) ∧ Aside0 (Below w.heap.size w w'))
     case atStart => exact ⟨(y159), (0), (1), (by first | rfl | (simp; done) | (simp [*]; done)), H', ⟨Nat.le_refl _⟩, ⟨by (with_reducible repeat (first | apply Kd.R_alloc | apply Kd.R_drewN | apply Kd.R_drew)); exact Kd.R_mono HO161.out (fun _ hk => hk.2)⟩, ⟨by (with_reducible repeat (first | refine blk_drewN ?_ _ | refine blk_drew ?_ | refine blk_alloc ?_ _)); exact BK156.out⟩, ⟨by (with_reducible repeat (first | refine blk_drewN ?_ _ | refine blk_drew ?_ | refine blk_alloc ?_ _)); exact BK157.out⟩, ⟨by (with_reducible repeat (first | refine blk_drewN ?_ _ | refine blk_drew ?_ | refine blk_alloc ?_ _)); exact BK158.out⟩, ⟨by repeat (first | (with_reducible first | exact HB.out | apply below_alloc | apply pw_below_drewN | apply below_drew1 | refine below_set ?_ GE156.out | refine below_set ?_ GE157.out | refine below_set ?_ GE158.out) | exact HB.out)⟩⟩
     case round =>
      clear H'
      try clear c1
      try clear c2
      try clear p2
      try clear c5
      try clear c5b0
      try clear c5b1
      try clear c6
      try clear c6b0
      try clear c6b1
      try clear c7
      try clear c7b0
      try clear c7b1
      try clear c11
      try clear c12
      try clear hcz13_0
      try clear hcz13_1
      try clear hcz13_2
      try clear hcz13_3
      try clear hcz13_4
      try clear hcz8_0
      try clear hfz13_0
      try clear hfz13_1
      try clear hfz13_2
      try clear hfz13_3
      try clear hfz13_4
      try clear hfz8_0
      try clear p2
      obtain ⟨x7_2, x23_2, x159000_2, rfl, HA, HK2, HO_7, BK156, BK157, BK158, HB⟩ := hrel
      cases gk with
      | zero => exact absurd HA.out (by simp [nrzi_Encode.l0])
      | succ k2 =>
       have H := HA.out; clear HA
       simp only [nrzi_Encode.l0] at H
       have HC16 := Aside0.mk H; clear H
       go_upto_if 24 with (fail)
       go_cut [] (fun wc => ∃ (kq : Nat), Aside0 (nrzi_Encode.j2 kq x7_2 l1 (l1.length : Int) x23_2 a0_0 x159000_2 0 0 (⟨#[]⟩ : ByteArray) 0 = some (r1, r2)) ∧ Aside0 (kq ≤ k2) ∧ Aside0 (Kd.R k44 44 wc w.heap.size (fun k_ => k_ ≠ gb158) u7 x7_2) ∧ Aside0 (wc.heap[gb156]? = some (.cells #[.bool a0_0] 23 (0, 0))) ∧ Aside0 (wc.heap[gb157]? = some (.cells #[.bool a0_0] 23 (0, 0))) ∧ Aside0 (wc.heap[gb158]? = some (.cells #[.int .i64 x159000_2] 3 (0, 0))) ∧ Aside0 (Below w.heap.size w wc))
       case first =>
        have H := HC16.out; clear HC16
        by_cases c17 : x23_2 < (l1.length : Int)
        ·rw [if_pos c17] at H
         have c17b0 : decide (x23_2 < (l1.length : Int)) = true := decide_eq_true c17; clear c17
         (first | rw [c17b0] | (simp only [i64_w, i32_w]; rw [c17b0]) | skip)
         have H' := Aside0.mk H; clear H
         go_wp2
         go_meet
         case rel => exact ⟨_, H', ⟨by have := HJ2.out; have := HK2.out; first | omega | exact Nat.le_refl _⟩, ⟨by (with_reducible repeat (first | apply Kd.R_alloc | apply Kd.R_drewN | apply Kd.R_drew)); exact HO_7.out⟩, ⟨by (with_reducible repeat (first | refine blk_drewN ?_ _ | refine blk_drew ?_ | refine blk_alloc ?_ _)); exact BK156.out⟩, ⟨by (with_reducible repeat (first | refine blk_drewN ?_ _ | refine blk_drew ?_ | refine blk_alloc ?_ _)); exact BK157.out⟩, ⟨by (with_reducible repeat (first | refine blk_drewN ?_ _ | refine blk_drew ?_ | refine blk_alloc ?_ _)); exact BK158.out⟩, ⟨by repeat (first | (with_reducible first | exact HB.out | apply below_alloc | apply pw_below_drewN | apply below_drew1 | refine below_set ?_ GE156.out | refine below_set ?_ GE157.out | refine below_set ?_ GE158.out) | exact HB.out)⟩⟩
        ·rw [if_neg c17] at H
         have c17b0 : decide (x23_2 < (l1.length : Int)) = false := decide_eq_false c17; clear c17
         (first | rw [c17b0] | (simp only [i64_w, i32_w]; rw [c17b0]) | skip)
         simp only [Option.some.injEq, Prod.mk.injEq] at H
         obtain ⟨rfl, rfl⟩ := H
         go_wp2
         go_ret2
         exact ⟨_, by first | rfl | (simp [errW_none, errW_some] <;> rfl) | (simp [*, errW_none, errW_some] <;> rfl), by (with_reducible repeat (first | apply Kd.R_alloc | apply Kd.R_drewN | apply Kd.R_drew)); exact Kd.R_mono HO_7.out (fun _ hk => trivial), by repeat (first | (with_reducible first | exact HB.out | apply below_alloc | apply pw_below_drewN | apply below_drew1 | refine below_set ?_ GE156.out | refine below_set ?_ GE157.out | refine below_set ?_ GE158.out) | exact HB.out)⟩
       case rest =>
        clear HC16
        try clear c1
        try clear c2
        try clear p2
        try clear c5
        try clear c5b0
        try clear c5b1
        try clear c6
        try clear c6b0
        try clear c6b1
        try clear c7
        try clear c7b0
        try clear c7b1
        try clear c11
        try clear c12
        try clear c17
        try clear c17b0
        try clear hcz13_0
        try clear hcz13_1
        try clear hcz13_2
        try clear hcz13_3
        try clear hcz13_4
        try clear hcz8_0
        try clear hfz13_0
        try clear hfz13_1
        try clear hfz13_2
        try clear hfz13_3
        try clear hfz13_4
        try clear hfz8_0
        try clear p2
        obtain ⟨kq, HA, HJ15, HO_7, BK156, BK157, BK158, HB⟩ := hcut
        cases kq with
        | zero => exact absurd HA.out (by simp [nrzi_Encode.j2])
        | succ kj15 =>
         have H := HA.out; clear HA
         simp only [nrzi_Encode.j2] at H
         by_cases c18 : 0 ≤ x23_2
         ·rw [if_pos c18] at H
          have c18b0 : decide (0 ≤ x23_2) = true := decide_eq_true c18; clear c18
          by_cases c19 : x23_2 < (l1.length : Int)
          ·rw [if_pos c19] at H
           have c19b0 : decide (x23_2 < (l1.length : Int)) = true := decide_eq_true c19; clear c19; replace H := Option.bind_eq_some_iff.mp H; obtain ⟨t164, A200, H⟩ := H; replace H : (if t164 = 0 then (if 0 ≤ (((rd_T44 l1 x23_2).f3).size : Int) then (if ((((rd_T44 l1 x23_2).f3).size : Int) : Int).toNat ≤ 281474976710656 then ((some (List.replicate ((((rd_T44 l1 x23_2).f3).size : Int) : Int).toNat 0 : List Int)).bind fun y165 => (nrzi_Encode.l1 kj15 x7_2 y165 l1 (l1.length : Int) x23_2 (y165.length : Int) 0 a0_0 x159000_2 0 0 (⟨#[]⟩ : ByteArray) 0 ((rd_T44 l1 x23_2).f0) ((rd_T44 l1 x23_2).f1) ((rd_T44 l1 x23_2).f2) ((rd_T44 l1 x23_2).f3) ((rd_T44 l1 x23_2).f4))) else (none)) else (none)) else (some (([] : List (S44)), t164))) = some (r1, r2) := H; have A20 := Aside0.mk A200; clear A200
           by_cases c21 : t164 = 0
           ·rw [if_pos c21] at H
            have c21b0 : (t164 == 0) = true := beq_iff_eq.mpr c21; have c21b1 : (t164 != 0) = false := bne_eq_false_iff_eq.mpr c21; clear c21
            by_cases c22 : 0 ≤ (((rd_T44 l1 x23_2).f3).size : Int)
            ·rw [if_pos c22] at H
             have c22b0 := eq_true c22; have c22b1 : decide (0 ≤ (((rd_T44 l1 x23_2).f3).size : Int)) = true := decide_eq_true c22; clear c22
             by_cases c23 : ((((rd_T44 l1 x23_2).f3).size : Int) : Int).toNat ≤ 281474976710656
             ·rw [if_pos c23] at H
              have c23b0 := eq_true c23; have c23b1 : decide (((((rd_T44 l1 x23_2).f3).size : Int) : Int).toNat ≤ 281474976710656) = true := decide_eq_true c23; clear c23; obtain ⟨y165, hy165⟩ : ∃ y_ : List Int, y_ = (List.replicate ((((rd_T44 l1 x23_2).f3).size : Int) : Int).toNat 0) := ⟨_, rfl⟩
              replace H : (nrzi_Encode.l1 kj15 x7_2 y165 l1 (l1.length : Int) x23_2 (y165.length : Int) 0 a0_0 x159000_2 0 0 (⟨#[]⟩ : ByteArray) 0 ((rd_T44 l1 x23_2).f0) ((rd_T44 l1 x23_2).f1) ((rd_T44 l1 x23_2).f2) ((rd_T44 l1 x23_2).f3) ((rd_T44 l1 x23_2).f4)) = some (r1, r2) := by first | (rw [hy165]; with_reducible exact H) | (have H2_ := (Option.bind_some _ _).symm.trans H; rw [hy165]; with_reducible exact H2_) | (have H2_ := (Option.bind_some _ _).symm.trans H; with_reducible exact H2_) | with_reducible exact H | (rw [hy165]; exact H) | exact H
              have Ny165 := Aside0.mk hy165; clear hy165; have H' := Aside0.mk H; clear H; have p162 : 0 ≤ (x23_2 : Int) := of_decide_eq_true (by first | (with_reducible assumption) | assumption); have q162 : x23_2 < (l1.length : Int) := of_decide_eq_true (by first | (with_reducible assumption) | assumption); obtain ⟨ad162, e162, hx162_0, hx162_1, hx162_2, hx162_3, hx162_4⟩ := at_T44 HR1.out x23_2 p162 q162
              cases e162
              replace hx162_0 := (HB.out.cell (World.block_lt_of_cell? w _ hx162_0)).trans hx162_0; replace hx162_1 := (HB.out.cell (World.block_lt_of_cell? w _ hx162_1)).trans hx162_1; replace hx162_2 := (HB.out.cell (World.block_lt_of_cell? w _ hx162_2)).trans hx162_2; replace hx162_3 := (HB.out.cell (World.block_lt_of_cell? w _ hx162_3)).trans hx162_3; replace hx162_4 := (HB.out.cell (World.block_lt_of_cell? w _ hx162_4)).trans hx162_4; replace p162 := eq_true p162; replace q162 := eq_true q162
              go_wp2_with (first | ((with_reducible refine gate_dst (N := 9) rfl ?_); refine box_event ?hg (N := 9) ?hd (cs := #[.int .i64 0, .int .i64 0, .int .i64 0, .string (⟨#[]⟩ : ByteArray), .int .i64 0]) (t := 44) ?hr ?_; (case hd => rfl); (case hg => rfl); (case hr => first | (go_simp; done) | (go_simp; rfl)); intro gb163 hg w24 hbox hb; have n0_ := Aside0.mk (Kd.R_below (Kd.R_elderB (rkw HO_7.out) gb163 (Nat.le_of_eq hg.symm)) hb); have n1_ := Aside0.mk (blkb BK156.out hb); have n2_ := Aside0.mk (blkb BK157.out hb); have n3_ := Aside0.mk (blkb BK158.out hb); have n4_ := Aside0.mk (below_step (hbw HB.out) hb); have n5_ := Aside0.mk (hbox); have n6_ := bsz HB hg; have n7_ := bsz HB hg; have n8_ := bnl BK156 hg; have n9_ := bng BK156 hg; have n10_ := bnl BK157 hg; have n11_ := bng BK157 hg; have n12_ := bnl BK158 hg; have n13_ := bng BK158 hg; clear HO_7; clear BK156; clear BK157; clear BK158; clear HB; have HO_7 := n0_; have BK156 := n1_; have BK157 := n2_; have BK158 := n3_; have HB := n4_; have BK163 := n5_; have GW163 := n6_; have GE163 := n7_; have NB156_163 := n8_; have NB163_156 := n9_; have NB157_163 := n10_; have NB163_157 := n11_; have NB158_163 := n12_; have NB163_158 := n13_; clear n0_ n1_ n2_ n3_ n4_ n5_ n6_ n7_ n8_ n9_ n10_ n11_ n12_ n13_; clear hb hbox hg; have hnb25 := NB163_156.out; have hnc25 := NB156_163.out; have hnb26 := NB163_157.out; have hnc26 := NB157_163.out; have hnb27 := NB163_158.out; have hnc27 := NB158_163.out; have hcz28_0 : w24.cell? ⟨gb163, 0, none⟩ = some (.int .i64 0) := ck BK163 0; have hcz28_1 : w24.cell? ⟨gb163, 1, none⟩ = some (.int .i64 0) := ck BK163 1; have hcz28_2 : w24.cell? ⟨gb163, 2, none⟩ = some (.int .i64 0) := ck BK163 2; have hcz28_3 : w24.cell? ⟨gb163, 3, none⟩ = some (.string (⟨#[]⟩ : ByteArray)) := ck BK163 3; have hcz28_4 : w24.cell? ⟨gb163, 4, none⟩ = some (.int .i64 0) := ck BK163 4; have hfz28_0 := blk_frozen BK163.out 0; have hfz28_1 := blk_frozen BK163.out 1; have hfz28_2 := blk_frozen BK163.out 2; have hfz28_3 := blk_frozen BK163.out 3; have hfz28_4 := blk_frozen BK163.out 4) | ((with_reducible refine gate_callee (f := 29) rfl ?_); refine goesL_ (some 28) rfl rfl Try.func29 (by kernel_rfl) rfl #[.agg #[.int .i64 ((rd_T44 l1 x23_2).f0), .int .i64 ((rd_T44 l1 x23_2).f1), .int .i64 ((rd_T44 l1 x23_2).f2), .string ((rd_T44 l1 x23_2).f3), .int .i64 ((rd_T44 l1 x23_2).f4)]] rfl (by (try simp only [List.map_toArray, List.map_cons, List.map_nil]); first | done | rfl | (simp only [List.length_drop, List.length_take]; rfl)) ?_; (with_reducible refine (nrzi_check.calls kj15 ((rd_T44 l1 x23_2).f0) ((rd_T44 l1 x23_2).f1) ((rd_T44 l1 x23_2).f2) ((rd_T44 l1 x23_2).f3) ((rd_T44 l1 x23_2).f4) t164 _ A20.out).mono ?_); rintro e w29 ⟨rfl, hb⟩; refine ⟨_, rfl, ?_⟩; have n0_ := Aside0.mk (Kd.R_below (by (with_reducible repeat (first | apply Kd.R_alloc | apply Kd.R_drewN | apply Kd.R_drew)); exact (Kd.R_mono (Kd.R_far (p := ⟨gb163, 4, none⟩) (Kd.R_far (p := ⟨gb163, 3, none⟩) (Kd.R_far (p := ⟨gb163, 2, none⟩) (Kd.R_far (p := ⟨gb163, 1, none⟩) (Kd.R_far (p := ⟨gb163, 0, none⟩) (Kd.R_mono HO_7.out (fun k_ hk => (⟨hk, hk.2⟩ : _ ∧ k_ ≠ gb163))) (fun _ hk => hk.2) (.int .i64 ((rd_T44 l1 x23_2).f0))) (fun _ hk => hk.2) (.int .i64 ((rd_T44 l1 x23_2).f1))) (fun _ hk => hk.2) (.int .i64 ((rd_T44 l1 x23_2).f2))) (fun _ hk => hk.2) (.string ((rd_T44 l1 x23_2).f3))) (fun _ hk => hk.2) (.int .i64 ((rd_T44 l1 x23_2).f4))) (fun _ h_ => h_.1))) hb); have n1_ := Aside0.mk (blk_below (g := gb156) (o := .cells #[.bool a0_0] 23 (0, 0)) (by (repeat (with_reducible first | refine blk_far ?_ NB156_163.out _ | refine blk_drewN ?_ _ | refine blk_drew ?_ | refine blk_alloc ?_ _)); exact BK156.out) hb); have n2_ := Aside0.mk (blk_below (g := gb157) (o := .cells #[.bool a0_0] 23 (0, 0)) (by (repeat (with_reducible first | refine blk_far ?_ NB157_163.out _ | refine blk_drewN ?_ _ | refine blk_drew ?_ | refine blk_alloc ?_ _)); exact BK157.out) hb); have n3_ := Aside0.mk (blk_below (g := gb158) (o := .cells #[.int .i64 x159000_2] 3 (0, 0)) (by (repeat (with_reducible first | refine blk_far ?_ NB158_163.out _ | refine blk_drewN ?_ _ | refine blk_drew ?_ | refine blk_alloc ?_ _)); exact BK158.out) hb); have n4_ := Aside0.mk (blk_below (g := gb163) (o := .cells #[.int .i64 ((rd_T44 l1 x23_2).f0), .int .i64 ((rd_T44 l1 x23_2).f1), .int .i64 ((rd_T44 l1 x23_2).f2), .string ((rd_T44 l1 x23_2).f3), .int .i64 ((rd_T44 l1 x23_2).f4)] 44 (0, 0)) (by (with_reducible repeat (first | refine blk_drewN ?_ _ | refine blk_drew ?_ | refine blk_alloc ?_ _)); refine blk_put (cs := #[.int .i64 ((rd_T44 l1 x23_2).f0), .int .i64 ((rd_T44 l1 x23_2).f1), .int .i64 ((rd_T44 l1 x23_2).f2), .string ((rd_T44 l1 x23_2).f3), .int .i64 0]) ?_ 4 _ rfl; (with_reducible repeat (first | refine blk_drewN ?_ _ | refine blk_drew ?_ | refine blk_alloc ?_ _)); refine blk_put (cs := #[.int .i64 ((rd_T44 l1 x23_2).f0), .int .i64 ((rd_T44 l1 x23_2).f1), .int .i64 ((rd_T44 l1 x23_2).f2), .string (⟨#[]⟩ : ByteArray), .int .i64 0]) ?_ 3 _ rfl; (with_reducible repeat (first | refine blk_drewN ?_ _ | refine blk_drew ?_ | refine blk_alloc ?_ _)); refine blk_put (cs := #[.int .i64 ((rd_T44 l1 x23_2).f0), .int .i64 ((rd_T44 l1 x23_2).f1), .int .i64 0, .string (⟨#[]⟩ : ByteArray), .int .i64 0]) ?_ 2 _ rfl; (with_reducible repeat (first | refine blk_drewN ?_ _ | refine blk_drew ?_ | refine blk_alloc ?_ _)); refine blk_put (cs := #[.int .i64 ((rd_T44 l1 x23_2).f0), .int .i64 0, .int .i64 0, .string (⟨#[]⟩ : ByteArray), .int .i64 0]) ?_ 1 _ rfl; (with_reducible repeat (first | refine blk_drewN ?_ _ | refine blk_drew ?_ | refine blk_alloc ?_ _)); refine blk_put (cs := #[.int .i64 0, .int .i64 0, .int .i64 0, .string (⟨#[]⟩ : ByteArray), .int .i64 0]) ?_ 0 _ rfl; (with_reducible repeat (first | refine blk_drewN ?_ _ | refine blk_drew ?_ | refine blk_alloc ?_ _)); exact BK163.out) hb); have n5_ := Aside0.mk (below_step (hbw HB.out) hb); clear HO_7; clear BK156; clear BK157; clear BK158; clear BK163; clear HB; have HO_7 := n0_; have BK156 := n1_; have BK157 := n2_; have BK158 := n3_; have BK163 := n4_; have HB := n5_; clear n0_ n1_ n2_ n3_ n4_ n5_; (try clear hb); (try clear hb2); (try clear hk); (try clear hi); have hcz30_0 : w29.cell? ⟨gb163, 0, none⟩ = some (.int .i64 ((rd_T44 l1 x23_2).f0)) := ck BK163 0; have hcz30_1 : w29.cell? ⟨gb163, 1, none⟩ = some (.int .i64 ((rd_T44 l1 x23_2).f1)) := ck BK163 1; have hcz30_2 : w29.cell? ⟨gb163, 2, none⟩ = some (.int .i64 ((rd_T44 l1 x23_2).f2)) := ck BK163 2; have hcz30_3 : w29.cell? ⟨gb163, 3, none⟩ = some (.string ((rd_T44 l1 x23_2).f3)) := ck BK163 3; have hcz30_4 : w29.cell? ⟨gb163, 4, none⟩ = some (.int .i64 ((rd_T44 l1 x23_2).f4)) := ck BK163 4; have hfz30_0 := blk_frozen BK163.out 0; have hfz30_1 := blk_frozen BK163.out 1; have hfz30_2 := blk_frozen BK163.out 2; have hfz30_3 := blk_frozen BK163.out 3; have hfz30_4 := blk_frozen BK163.out 4) | ((with_reducible refine gate_dst (N := 35) rfl ?_); refine Kd.R_make (Kd.int .u8) _ 5 rfl (N := 35) rfl 56 _ _ rfl (((rd_T44 l1 x23_2).f3).size : Int) rfl rfl Try.underlying56 (.int .u8 0) 1 info5 rfl (by decide) (by omega) 0 (ok := fun _ => True) (okp := fun _ => True) rfl (fun _ hk => hk) trivial (of_decide_eq_true (by first | (with_reducible assumption) | assumption)) (Nat.le_trans (Nat.mul_le_mul_right _ (of_decide_eq_true (by first | (with_reducible assumption) | assumption) : (((rd_T44 l1 x23_2).f3).size : Int).toNat ≤ 281474976710656)) (by omega)) (Below.refl _ _) (Nat.le_refl _) ?_; intro v166 w31 ho32 hb hg_ hnew_; clear hg_ hnew_; (first | rw [← Ny165.out] at ho32 | (simp only [Int.reduceToNat] at ho32; rw [← Ny165.out] at ho32)); have n0_ := Aside0.mk (Kd.R_below (rkw HO_7.out) hb); have n1_ := Aside0.mk (Kd.R_lower ho32 (below_size (hbw HB.out))); have n2_ := Aside0.mk (blkb BK156.out hb); have n3_ := Aside0.mk (blkb BK157.out hb); have n4_ := Aside0.mk (blkb BK158.out hb); have n5_ := Aside0.mk (blkb BK163.out hb); have n6_ := Aside0.mk (below_step (hbw HB.out) hb); clear HO_7; clear BK156; clear BK157; clear BK158; clear BK163; clear HB; have HO_7 := n0_; have HO167 := n1_; have BK156 := n2_; have BK157 := n3_; have BK158 := n4_; have BK163 := n5_; have HB := n6_; clear n0_ n1_ n2_ n3_ n4_ n5_ n6_; clear hb ho32; obtain ⟨Ao33, co33, eo33⟩ := Kd.R_slice HO167.out; subst eo33))
              go_loopg [38] kj15 (fun kq v38 w' => ∃ (x11_4 : List Int) (x38_4 : Int) (x159000_4 : Int), v38 = .int .i64 x38_4 ∧ Aside0 (nrzi_Encode.l1 kq x7_2 x11_4 l1 (l1.length : Int) x23_2 (y165.length : Int) x38_4 a0_0 x159000_4 0 0 (⟨#[]⟩ : ByteArray) 0 ((rd_T44 l1 x23_2).f0) ((rd_T44 l1 x23_2).f1) ((rd_T44 l1 x23_2).f2) ((rd_T44 l1 x23_2).f3) ((rd_T44 l1 x23_2).f4) = some (r1, r2)) ∧ Aside0 (kq ≤ kj15) ∧ Aside0 (Kd.R k44 44 w' w.heap.size (fun k_ => k_ ≠ gb158 ∧ k_ ≠ gb163) u7 x7_2) ∧ Aside0 (Kd.R (Kd.int .u8) 5 w' w.heap.size (fun _ => True) (.slice Ao33 y165.length co33) x11_4) ∧ Aside0 (w'.heap[gb156]? = some (.cells #[.bool a0_0] 23 (0, 0))) ∧ Aside0 (w'.heap[gb157]? = some (.cells #[.bool a0_0] 23 (0, 0))) ∧ Aside0 (w'.heap[gb158]? = some (.cells #[.int .i64 x159000_4] 3 (0, 0))) ∧ Aside0 (w'.heap[gb163]? = some (.cells #[.int .i64 ((rd_T44 l1 x23_2).f0), .int .i64 ((rd_T44 l1 x23_2).f1), .int .i64 ((rd_T44 l1 x23_2).f2), .string ((rd_T44 l1 x23_2).f3), .int .i64 ((rd_T44 l1 x23_2).f4)] 44 (0, 0))) ∧ Aside0 (Below w.heap.size w w'))
              case atStart => exact ⟨(y165), (0), (x159000_2), (by first | rfl | (simp; done) | (simp [*]; done)), H', ⟨Nat.le_refl _⟩, ⟨by (with_reducible repeat (first | apply Kd.R_alloc | apply Kd.R_drewN | apply Kd.R_drew)); exact HO_7.out⟩, ⟨by (with_reducible repeat (first | apply Kd.R_alloc | apply Kd.R_drewN | apply Kd.R_drew)); exact HO167.out⟩, ⟨by (with_reducible repeat (first | refine blk_drewN ?_ _ | refine blk_drew ?_ | refine blk_alloc ?_ _)); exact BK156.out⟩, ⟨by (with_reducible repeat (first | refine blk_drewN ?_ _ | refine blk_drew ?_ | refine blk_alloc ?_ _)); exact BK157.out⟩, ⟨by (with_reducible repeat (first | refine blk_drewN ?_ _ | refine blk_drew ?_ | refine blk_alloc ?_ _)); exact BK158.out⟩, ⟨by (with_reducible repeat (first | refine blk_drewN ?_ _ | refine blk_drew ?_ | refine blk_alloc ?_ _)); exact BK163.out⟩, ⟨by repeat (first | (with_reducible first | exact HB.out | apply below_alloc | apply pw_below_drewN | apply below_drew1 | refine below_set ?_ GE156.out | refine below_set ?_ GE157.out | refine below_set ?_ GE158.out | refine below_set ?_ GE163.out) | exact HB.out)⟩⟩
              case round =>
               clear H'
               try clear c1
               try clear p1
               try clear q1
               try clear hx1
               try clear c2
               try clear p2
               try clear c5
               try clear c5b0
               try clear c5b1
               try clear c6
               try clear c6b0
               try clear c6b1
               try clear c7
               try clear c7b0
               try clear c7b1
               try clear c11
               try clear c12
               try clear p16
               try clear q16
               try clear hx16
               try clear c17
               try clear c17b0
               try clear c18
               try clear c18b0
               try clear c19
               try clear c19b0
               try clear c20
               try clear c21
               try clear c21b0
               try clear c21b1
               try clear c22
               try clear c22b0
               try clear c22b1
               try clear c23
               try clear c23b0
               try clear c23b1
               try clear c25
               try clear c26
               try clear c27
               try clear c29
               try clear hcz13_0
               try clear hcz13_1
               try clear hcz13_2
               try clear hcz13_3
               try clear hcz13_4
               try clear hcz28_0
               try clear hcz28_1
               try clear hcz28_2
               try clear hcz28_3
               try clear hcz28_4
               try clear hcz30_0
               try clear hcz30_1
               try clear hcz30_2
               try clear hcz30_3
               try clear hcz30_4
               try clear hcz8_0
               try clear hfz13_0
               try clear hfz13_1
               try clear hfz13_2
               try clear hfz13_3
               try clear hfz13_4
               try clear hfz28_0
               try clear hfz28_1
               try clear hfz28_2
               try clear hfz28_3
               try clear hfz28_4
               try clear hfz30_0
               try clear hfz30_1
               try clear hfz30_2
               try clear hfz30_3
               try clear hfz30_4
               try clear hfz8_0
               try clear hx162_0
               try clear hx162_1
               try clear hx162_2
               try clear hx162_3
               try clear hx162_4
               try clear p162
               try clear p2
               try clear q162
               obtain ⟨x11_4, x38_4, x159000_4, rfl, HA, HK4, HO_7, HO_11, BK156, BK157, BK158, BK163, HB⟩ := hrel; have hl11_4 := (Kd.R_reads' HO_11.out).1
               rw [hl11_4] at HO_11
               (try simp only [hl11_4]); (try simp only [hl11_4] at BK156); (try simp only [hl11_4] at BK157); (try simp only [hl11_4] at BK158); (try simp only [hl11_4] at BK163); (try simp only [hl11_4] at HO_7)
               cases gk with
               | zero => exact absurd HA.out (by simp [nrzi_Encode.l1])
               | succ k4 =>
                have H := HA.out; clear HA
                simp only [nrzi_Encode.l1] at H
                by_cases c34 : x38_4 < (y165.length : Int)
                ·rw [if_pos c34] at H
                 have c34b0 : decide (x38_4 < (y165.length : Int)) = true := decide_eq_true c34; (try rw [hl11_4] at c34b0); clear c34
                 by_cases c35 : 0 ≤ x38_4
                 ·rw [if_pos c35] at H
                  have c35b0 : decide (0 ≤ x38_4) = true := decide_eq_true c35; clear c35
                  by_cases c36 : x38_4 < (((rd_T44 l1 x23_2).f3).size : Int)
                  ·rw [if_pos c36] at H
                   have c36b0 : decide (x38_4 < (((rd_T44 l1 x23_2).f3).size : Int)) = true := decide_eq_true c36; clear c36; replace H := Option.bind_eq_some_iff.mp H; obtain ⟨t168, A380, H⟩ := H; replace H : (if x38_4 < (x11_4.length : Int) then (nrzi_Encode.l1 k4 x7_2 (x11_4.set (x38_4 : Int).toNat ((48 + ((t168) % 256)) % 256)) l1 (l1.length : Int) x23_2 (y165.length : Int) (wrap64 (x38_4 + 1)) a0_0 t168 0 0 (⟨#[]⟩ : ByteArray) 0 ((rd_T44 l1 x23_2).f0) ((rd_T44 l1 x23_2).f1) ((rd_T44 l1 x23_2).f2) ((rd_T44 l1 x23_2).f3) ((rd_T44 l1 x23_2).f4)) else (none)) = some (r1, r2) := H; have A38 := Aside0.mk A380; clear A380
                   by_cases c39 : x38_4 < (x11_4.length : Int)
                   ·rw [if_pos c39] at H
                    have c39b0 : decide (x38_4 < (x11_4.length : Int)) = true := decide_eq_true c39; (try rw [hl11_4] at c39b0); clear c39; obtain ⟨y169, hy169⟩ : ∃ y_ : List Int, y_ = (x11_4.set (x38_4 : Int).toNat ((48 + ((t168) % 256)) % 256)) := ⟨_, rfl⟩
                    replace H : (nrzi_Encode.l1 k4 x7_2 y169 l1 (l1.length : Int) x23_2 (y165.length : Int) (wrap64 (x38_4 + 1)) a0_0 t168 0 0 (⟨#[]⟩ : ByteArray) 0 ((rd_T44 l1 x23_2).f0) ((rd_T44 l1 x23_2).f1) ((rd_T44 l1 x23_2).f2) ((rd_T44 l1 x23_2).f3) ((rd_T44 l1 x23_2).f4)) = some (r1, r2) := by first | (rw [hy169]; with_reducible exact H) | (have H2_ := (Option.bind_some _ _).symm.trans H; rw [hy169]; with_reducible exact H2_) | (have H2_ := (Option.bind_some _ _).symm.trans H; with_reducible exact H2_) | with_reducible exact H | (rw [hy169]; exact H) | exact H
                    have Ny169 := Aside0.mk hy169; clear hy169; have H' := Aside0.mk H; clear H; have hnb41 := NB157_156.out; have hnc41 := NB156_157.out; have hnb42 := NB157_158.out; have hnc42 := NB158_157.out; have hnb43 := NB157_163.out; have hnc43 := NB163_157.out; have hcz44_0 : wr.cell? ⟨gb157, 0, none⟩ = some (.bool a0_0) := ck BK157 0; have hfz44_0 := blk_frozen BK157.out 0; have hnb45 := NB158_156.out; have hnc45 := NB156_158.out; have hnb46 := NB158_163.out; have hnc46 := NB163_158.out; have hcz47_0 : wr.cell? ⟨gb158, 0, none⟩ = some (.int .i64 x159000_4) := ck BK158 0
                    
                    
                    
                    
                    have hfz47_0 := blk_frozen BK158.out 0; have hfz47_1 := blk_frozen BK158.out 1; have hfz47_2 := blk_frozen BK158.out 2; have hfz47_3 := blk_frozen BK158.out 3; have hfz47_4 := blk_frozen BK158.out 4; have hnb48 := NB163_156.out; have hnc48 := NB156_163.out; have hcz49_0 : wr.cell? ⟨gb163, 0, none⟩ = some (.int .i64 ((rd_T44 l1 x23_2).f0)) := ck BK163 0; have hcz49_1 : wr.cell? ⟨gb163, 1, none⟩ = some (.int .i64 ((rd_T44 l1 x23_2).f1)) := ck BK163 1; have hcz49_2 : wr.cell? ⟨gb163, 2, none⟩ = some (.int .i64 ((rd_T44 l1 x23_2).f2)) := ck BK163 2; have hcz49_3 : wr.cell? ⟨gb163, 3, none⟩ = some (.string ((rd_T44 l1 x23_2).f3)) := ck BK163 3; have hcz49_4 : wr.cell? ⟨gb163, 4, none⟩ = some (.int .i64 ((rd_T44 l1 x23_2).f4)) := ck BK163 4; have hfz49_0 := blk_frozen BK163.out 0; have hfz49_1 := blk_frozen BK163.out 1; have hfz49_2 := blk_frozen BK163.out 2; have hfz49_3 := blk_frozen BK163.out 3; have hfz49_4 := blk_frozen BK163.out 4; have p37 : 0 ≤ (x38_4 : Int) := of_decide_eq_true (by first | (with_reducible assumption) | assumption); have q37 : x38_4 < (((rd_T44 l1 x23_2).f3).size : Int) := of_decide_eq_true (by first | (with_reducible assumption) | assumption); have hx37 := bt_at ((rd_T44 l1 x23_2).f3) x38_4; replace p37 := eq_true p37; replace q37 := eq_true q37
                    go_wp2_with (first | (go_at_call 33; (refine (nrzi_sender_1.calls gb157 gb158 a0_0 x159000_4 (((bt ((rd_T44 l1 x23_2).f3) x38_4) - 48) % 256) t168 _ ?side1 ?side2 A38.out).mono ?_); (case side1 => exact (bkw BK157.out)); (case side2 => exact (bkw BK158.out)); rintro e w52 ⟨rfl, w50, hb, hw⟩; have n0_ := Aside0.mk (Kd.R_below (rkw HO_7.out) hb); have n1_ := Aside0.mk (Kd.R_below (rkw HO_11.out) hb); have n2_ := Aside0.mk (blkb BK156.out hb); have n3_ := Aside0.mk (blkb BK157.out hb); have n4_ := Aside0.mk (blkb BK158.out hb); have n5_ := Aside0.mk (blkb BK163.out hb); have n6_ := Aside0.mk (below_step (hbw HB.out) hb); clear HO_7; clear HO_11; clear BK156; clear BK157; clear BK158; clear BK163; clear HB; have HO_7 := n0_; have HO_11 := n1_; have BK156 := n2_; have BK157 := n3_; have BK158 := n4_; have BK163 := n5_; have HB := n6_; clear n0_ n1_ n2_ n3_ n4_ n5_ n6_; (try clear hb); (try clear hb2); (try clear hk); (try clear hi); have hcz51_0 : w50.cell? ⟨gb158, 0, none⟩ = some (.int .i64 x159000_4) := ck BK158 0; have hfz51_0 := blk_frozen BK158.out 0; have hfz51_1 := blk_frozen BK158.out 1; have hfz51_2 := blk_frozen BK158.out 2; have hfz51_3 := blk_frozen BK158.out 3; have hfz51_4 := blk_frozen BK158.out 4; have n0_ : Aside0 (Kd.R k44 44 w52 w.heap.size (fun k_ => k_ ≠ gb158 ∧ k_ ≠ gb163) u7 x7_2) := ⟨(by rw [hw]; exact (by (with_reducible repeat (first | apply Kd.R_alloc | apply Kd.R_drewN | apply Kd.R_drew)); exact Kd.R_mono (Kd.R_far (p := ⟨gb158, 0, none⟩) (Kd.R_mono HO_7.out (fun k_ hk => (⟨hk, hk.1⟩ : _ ∧ k_ ≠ gb158))) (fun _ hk => hk.2) (.int .i64 t168)) (fun _ hk => ⟨hk.1.1, hk.1.2⟩)))⟩; have n1_ : Aside0 (Kd.R (Kd.int .u8) 5 w52 w.heap.size (fun _ => True) (.slice Ao33 x11_4.length co33) x11_4) := ⟨(by rw [hw]; exact (by (with_reducible repeat (first | apply Kd.R_alloc | apply Kd.R_drewN | apply Kd.R_drew)); exact Kd.R_mono (Kd.R_far (p := ⟨gb158, 0, none⟩) (Kd.R_types HO_11.out BK158.out (by decide)) (fun _ hk => hk.2) (.int .i64 t168)) (fun _ hk => trivial)))⟩; have n2_ : Aside0 (w52.heap[gb156]? = some (.cells #[.bool a0_0] 23 (0, 0))) := ⟨(by rw [hw]; exact (by (with_reducible repeat (first | refine blk_drewN ?_ _ | refine blk_drew ?_ | refine blk_alloc ?_ _)); refine blk_far ?_ NB156_158.out _; (with_reducible repeat (first | refine blk_drewN ?_ _ | refine blk_drew ?_ | refine blk_alloc ?_ _)); exact BK156.out))⟩; have n3_ : Aside0 (w52.heap[gb157]? = some (.cells #[.bool a0_0] 23 (0, 0))) := ⟨(by rw [hw]; exact (by (with_reducible repeat (first | refine blk_drewN ?_ _ | refine blk_drew ?_ | refine blk_alloc ?_ _)); refine blk_far ?_ NB157_158.out _; (with_reducible repeat (first | refine blk_drewN ?_ _ | refine blk_drew ?_ | refine blk_alloc ?_ _)); exact BK157.out))⟩; have n4_ : Aside0 (w52.heap[gb158]? = some (.cells #[.int .i64 t168] 3 (0, 0))) := ⟨(by rw [hw]; exact (by (with_reducible repeat (first | refine blk_drewN ?_ _ | refine blk_drew ?_ | refine blk_alloc ?_ _)); refine blk_put (cs := #[.int .i64 x159000_4]) ?_ 0 _ rfl; (with_reducible repeat (first | refine blk_drewN ?_ _ | refine blk_drew ?_ | refine blk_alloc ?_ _)); exact BK158.out))⟩; have n5_ : Aside0 (w52.heap[gb163]? = some (.cells #[.int .i64 ((rd_T44 l1 x23_2).f0), .int .i64 ((rd_T44 l1 x23_2).f1), .int .i64 ((rd_T44 l1 x23_2).f2), .string ((rd_T44 l1 x23_2).f3), .int .i64 ((rd_T44 l1 x23_2).f4)] 44 (0, 0))) := ⟨(by rw [hw]; exact (by (with_reducible repeat (first | refine blk_drewN ?_ _ | refine blk_drew ?_ | refine blk_alloc ?_ _)); refine blk_far ?_ NB163_158.out _; (with_reducible repeat (first | refine blk_drewN ?_ _ | refine blk_drew ?_ | refine blk_alloc ?_ _)); exact BK163.out))⟩; have n6_ : Aside0 (Below w.heap.size w w52) := ⟨(by rw [hw]; exact (hbw HB.out))⟩; clear hw; clear HO_7; clear HO_11; clear BK156; clear BK157; clear BK158; clear BK163; clear HB; have HO_7 := n0_; have HO_11 := n1_; have BK156 := n2_; have BK157 := n3_; have BK158 := n4_; have BK163 := n5_; have HB := n6_; clear n0_ n1_ n2_ n3_ n4_ n5_ n6_; have p40 : 0 ≤ (x38_4 : Int) := of_decide_eq_true (by first | (with_reducible assumption) | assumption); have q40 : (x38_4 : Int) < ((x11_4.length : Int) : Int) := of_decide_eq_true (by first | (with_reducible assumption) | assumption); obtain ⟨go40, co40, eo40, gb40, gl40, cl40, HG40⟩ := Kd.R_form HO_11.out (by omega); (first | cases eo40 | (injection eo40 with ea_ en_ ec_; (first | subst ea_ | (injection ea_ with ea_; subst ea_)); subst ec_; clear en_)); have GB40 := Aside0.mk gb40; have GG40 := Aside0.mk HG40; clear gb40 gl40 HG40; obtain ⟨hx40_0, hf40_0⟩ := Kd.R_celln 0 HO_11.out (x38_4 : Int) p40 q40; replace p40 := eq_true p40; replace q40 := eq_true q40; obtain ⟨hy53_, hz53_⟩ := Kd.R_celln 0 HO_11.out (x38_4 : Int) (of_decide_eq_true (by first | (with_reducible assumption) | assumption)) (of_decide_eq_true (by first | (with_reducible assumption) | assumption)); have HP53 := Kd.R_putg HO_11.out (x38_4 : Int) ((48 + ((t168) % 256)) % 256)) | ((with_reducible refine gate_store (t := 5) (p := 53) rfl ?_); refine store_event (t := 5) (p := 53) (v := ?vo_w54) (w1 := (w52.setCell ⟨go40, (x38_4 : Int).toNat, none⟩ (.int .u8 ((48 + ((t168) % 256)) % 256)))) ?hg ?ho ?hn ?hr ?_; (case ho => rfl); (case hg => rfl); (case hn => rfl); (case hr => first | (go_simp; done) | (go_simp; rfl)); intro w54 hw; have hg : w52.grownBy w54 (some go40) := (by rw [hw]; exact HP53.2); have hp_ : Kd.R (Kd.int .u8) 5 w54 w.heap.size (fun _ => True) (.slice (some ⟨go40, 0, none⟩) x11_4.length co33) y169 := (by rw [hw, Ny169.out]; exact HP53.1); clear HP53; have n0_ := Aside0.mk (Kd.R_over' (v := (.slice (some ⟨go40, 0, none⟩) x11_4.length co33)) (rkw HO_7.out) (Kd.R_typed HO_11.out) (by decide) hg); have n1_ := Aside0.mk (hp_); have n2_ := Aside0.mk (blkg BK156.out hg (Kd.R_ne HO_11.out BK156.out (by decide))); have n3_ := Aside0.mk (blkg BK157.out hg (Kd.R_ne HO_11.out BK157.out (by decide))); have n4_ := Aside0.mk (blkg BK158.out hg (Kd.R_ne HO_11.out BK158.out (by decide))); have n5_ := Aside0.mk (blkg BK163.out hg (Kd.R_ne HO_11.out BK163.out (by decide))); have n6_ := Aside0.mk ((by rw [hw]; exact below_set (HB.out) GB40.out : Below w.heap.size w w54)); clear HO_7; clear HO_11; clear BK156; clear BK157; clear BK158; clear BK163; clear HB; have HO_7 := n0_; have HO_11 := n1_; have BK156 := n2_; have BK157 := n3_; have BK158 := n4_; have BK163 := n5_; have HB := n6_; clear n0_ n1_ n2_ n3_ n4_ n5_ n6_; clear hg hw hp_))
                    (try simp only [← hl11_4])
                    go_roundg k4
                    case measure => have := HJ2.out; have := HK2.out; have := HJ15.out; have := HK4.out; omega
                    case rel => exact ⟨(y169), (wrap64 (x38_4 + 1)), (t168), (by first | rfl | (simp; done) | (simp [*]; done)), H', ⟨by have := HJ2.out; have := HK2.out; have := HJ15.out; have := HK4.out; omega⟩, ⟨by (try simp only [hl11_4]); (with_reducible repeat (first | apply Kd.R_alloc | apply Kd.R_drewN | apply Kd.R_drew)); exact HO_7.out⟩, ⟨by (try simp only [hl11_4]); (with_reducible repeat (first | apply Kd.R_alloc | apply Kd.R_drewN | apply Kd.R_drew)); exact HO_11.out⟩, ⟨by (try simp only [hl11_4]); (with_reducible repeat (first | refine blk_drewN ?_ _ | refine blk_drew ?_ | refine blk_alloc ?_ _)); exact BK156.out⟩, ⟨by (try simp only [hl11_4]); (with_reducible repeat (first | refine blk_drewN ?_ _ | refine blk_drew ?_ | refine blk_alloc ?_ _)); exact BK157.out⟩, ⟨by (try simp only [hl11_4]); (with_reducible repeat (first | refine blk_drewN ?_ _ | refine blk_drew ?_ | refine blk_alloc ?_ _)); exact BK158.out⟩, ⟨by (try simp only [hl11_4]); (with_reducible repeat (first | refine blk_drewN ?_ _ | refine blk_drew ?_ | refine blk_alloc ?_ _)); exact BK163.out⟩, ⟨by repeat (first | (with_reducible first | exact HB.out | apply below_alloc | apply pw_below_drewN | apply below_drew1 | refine below_set ?_ GE156.out | refine below_set ?_ GE157.out | refine below_set ?_ GE158.out | refine below_set ?_ GE163.out) | exact HB.out)⟩⟩
                   ·rw [if_neg c39] at H
                    exact absurd H (by simp)
                  ·rw [if_neg c36] at H
                   exact absurd H (by simp)
                 ·rw [if_neg c35] at H
                  exact absurd H (by simp)
                ·rw [if_neg c34] at H
                 have c34b0 : decide (x38_4 < (y165.length : Int)) = false := decide_eq_false c34; (try rw [hl11_4] at c34b0); clear c34
                 by_cases c55 : x7_2.length < 2932031007402
                 ·rw [if_pos c55] at H
                  have LMc55 := Aside0.mk c55; clear c55; obtain ⟨y170, hy170⟩ : ∃ y_ : List (S44), y_ = (x7_2 ++ [(⟨((rd_T44 l1 x23_2).f0), 0, 0, strOfNums x11_4, 0⟩ : S44)]) := ⟨_, rfl⟩
                  replace H : (nrzi_Encode.l0 k4 y170 l1 (l1.length : Int) (wrap64 (x23_2 + 1)) a0_0 x159000_4 0 0 (⟨#[]⟩ : ByteArray) 0) = some (r1, r2) := by first | (rw [hy170]; with_reducible exact H) | (have H2_ := (Option.bind_some _ _).symm.trans H; rw [hy170]; with_reducible exact H2_) | (have H2_ := (Option.bind_some _ _).symm.trans H; with_reducible exact H2_) | with_reducible exact H | (rw [hy170]; exact H) | exact H
                  have Ny170 := Aside0.mk hy170; clear hy170; have H' := Aside0.mk H; clear H; have hnb56 := NB163_156.out; have hnc56 := NB156_163.out; have hnb57 := NB163_157.out; have hnc57 := NB157_163.out; have hnb58 := NB163_158.out; have hnc58 := NB158_163.out; have hcz59_0 : wr.cell? ⟨gb163, 0, none⟩ = some (.int .i64 ((rd_T44 l1 x23_2).f0)) := ck BK163 0; have hcz59_1 : wr.cell? ⟨gb163, 1, none⟩ = some (.int .i64 ((rd_T44 l1 x23_2).f1)) := ck BK163 1; have hcz59_2 : wr.cell? ⟨gb163, 2, none⟩ = some (.int .i64 ((rd_T44 l1 x23_2).f2)) := ck BK163 2; have hcz59_3 : wr.cell? ⟨gb163, 3, none⟩ = some (.string ((rd_T44 l1 x23_2).f3)) := ck BK163 3; have hcz59_4 : wr.cell? ⟨gb163, 4, none⟩ = some (.int .i64 ((rd_T44 l1 x23_2).f4)) := ck BK163 4; have hfz59_0 := blk_frozen BK163.out 0; have hfz59_1 := blk_frozen BK163.out 1; have hfz59_2 := blk_frozen BK163.out 2; have hfz59_3 := blk_frozen BK163.out 3; have hfz59_4 := blk_frozen BK163.out 4; have hcv60 := own_string (P := Try.prog) Try.underlying56 Try.underlying5 Try.underlying9 (Kd.own_of_R HO_11.out)
                  go_wp2_with (first | ((with_reducible refine gate_builtin (b := .append) (xs := #[.tmp 55, .tmp 61]) rfl ?_); at_builtin; refine Kd.R_append k44 (w0 := w) w.heap.size rfl (.tmp 55) (.tmp 61) 38 44 (.agg #[(.int .i64 0), (.int .i64 0), (.int .i64 0), (.string ⟨#[]⟩), (.int .i64 0)]) 48 rfl Try.underlying38 info44 rfl (by decide) (by omega) u7 x7_2 (⟨((rd_T44 l1 x23_2).f0), 0, 0, strOfNums x11_4, 0⟩ : S44) [.int .i64 ((rd_T44 l1 x23_2).f0), .int .i64 0, .int .i64 0, .string (strOfNums x11_4), .int .i64 0] (fun k_ => k_ ≠ gb158 ∧ k_ ≠ gb163) (fun _ => False) rfl rfl ?aP (fun _ hk => hk.elim) ?aF ?aO ?aB ?aS ?aL ?_; (case aP => exact k44_mkM _ _ _ (⟨((rd_T44 l1 x23_2).f0), 0, 0, strOfNums x11_4, 0⟩ : S44)); (case aB => exact (hbw HB.out)); (case aF => exact (fun k_ hk => ⟨Kd.freshB (g := gb158) (o := .cells #[.int .i64 x159000_4] 3 (0, 0)) (bkw BK158.out) k_ hk, Kd.freshB (g := gb163) (o := .cells #[.int .i64 ((rd_T44 l1 x23_2).f0), .int .i64 ((rd_T44 l1 x23_2).f1), .int .i64 ((rd_T44 l1 x23_2).f2), .string ((rd_T44 l1 x23_2).f3), .int .i64 ((rd_T44 l1 x23_2).f4)] 44 (0, 0)) (bkw BK163.out) k_ hk⟩)); (case aO => exact (rkw HO_7.out)); (case aS => exact (below_size (hbw HB.out))); (case aL => have := LMc55.out; omega); intro v171 w61 ho hb hg hat; rw [← Ny170.out] at ho; have n0_ := Aside0.mk (Kd.R_over' (rkw HO_11.out) (Kd.R_typed (rkw HO_7.out)) (by decide) hg); have n1_ := Aside0.mk (blkg BK156.out hg (Kd.R_ne HO_7.out BK156.out (by decide))); have n2_ := Aside0.mk (blkg BK157.out hg (Kd.R_ne HO_7.out BK157.out (by decide))); have n3_ := Aside0.mk (blkg BK158.out hg (Kd.R_away HO_7.out (fun _ hk => hk.1))); have n4_ := Aside0.mk (blkg BK163.out hg (Kd.R_away HO_7.out (fun _ hk => hk.2))); have n5_ := Aside0.mk (hb); have n6_ := Aside0.mk (ho); clear HO_11; clear BK156; clear BK157; clear BK158; clear BK163; clear HB; clear HO_7; have HO_11 := n0_; have BK156 := n1_; have BK157 := n2_; have BK158 := n3_; have BK163 := n4_; have HB := n5_; have HO172 := n6_; clear n0_ n1_ n2_ n3_ n4_ n5_ n6_; clear ho hb hg hat))
                  (try simp only [← hl11_4])
                  go_roundg k4
                  case measure => have := HJ2.out; have := HK2.out; have := HJ15.out; have := HK4.out; omega
                  case rel => exact ⟨(y170), (wrap64 (x23_2 + 1)), (x159000_4), (by first | rfl | (simp; done) | (simp [*]; done)), H', ⟨by have := HJ2.out; have := HK2.out; have := HJ15.out; have := HK4.out; omega⟩, ⟨by (try simp only [hl11_4]); (with_reducible repeat (first | apply Kd.R_alloc | apply Kd.R_drewN | apply Kd.R_drew)); exact Kd.R_mono HO172.out (fun _ hk => hk.1)⟩, ⟨by (try simp only [hl11_4]); (with_reducible repeat (first | refine blk_drewN ?_ _ | refine blk_drew ?_ | refine blk_alloc ?_ _)); exact BK156.out⟩, ⟨by (try simp only [hl11_4]); (with_reducible repeat (first | refine blk_drewN ?_ _ | refine blk_drew ?_ | refine blk_alloc ?_ _)); exact BK157.out⟩, ⟨by (try simp only [hl11_4]); (with_reducible repeat (first | refine blk_drewN ?_ _ | refine blk_drew ?_ | refine blk_alloc ?_ _)); exact BK158.out⟩, ⟨by repeat (first | (with_reducible first | exact HB.out | apply below_alloc | apply pw_below_drewN | apply below_drew1 | refine below_set ?_ GE156.out | refine below_set ?_ GE157.out | refine below_set ?_ GE158.out | refine below_set ?_ GE163.out) | exact HB.out)⟩⟩
                 ·rw [if_neg c55] at H
                  exact absurd H (by simp)
             ·rw [if_neg c23] at H
              exact absurd H (by simp)
            ·rw [if_neg c22] at H
             exact absurd H (by simp)
           ·rw [if_neg c21] at H
            have c21b0 : (t164 == 0) = false := beq_eq_false_iff_ne.mpr c21; have c21b1 : (t164 != 0) = true := bne_iff_ne.mpr c21
            simp only [Option.some.injEq, Prod.mk.injEq] at H
            obtain ⟨rfl, rfl⟩ := H; have p162 : 0 ≤ (x23_2 : Int) := of_decide_eq_true (by first | (with_reducible assumption) | assumption); have q162 : x23_2 < (l1.length : Int) := of_decide_eq_true (by first | (with_reducible assumption) | assumption); obtain ⟨ad162, e162, hx162_0, hx162_1, hx162_2, hx162_3, hx162_4⟩ := at_T44 HR1.out x23_2 p162 q162
            cases e162
            replace hx162_0 := (HB.out.cell (World.block_lt_of_cell? w _ hx162_0)).trans hx162_0; replace hx162_1 := (HB.out.cell (World.block_lt_of_cell? w _ hx162_1)).trans hx162_1; replace hx162_2 := (HB.out.cell (World.block_lt_of_cell? w _ hx162_2)).trans hx162_2; replace hx162_3 := (HB.out.cell (World.block_lt_of_cell? w _ hx162_3)).trans hx162_3; replace hx162_4 := (HB.out.cell (World.block_lt_of_cell? w _ hx162_4)).trans hx162_4; replace p162 := eq_true p162; replace q162 := eq_true q162
            go_wp2_with (first | ((with_reducible refine gate_dst (N := 9) rfl ?_); refine box_event ?hg (N := 9) ?hd (cs := #[.int .i64 0, .int .i64 0, .int .i64 0, .string (⟨#[]⟩ : ByteArray), .int .i64 0]) (t := 44) ?hr ?_; (case hd => rfl); (case hg => rfl); (case hr => first | (go_simp; done) | (go_simp; rfl)); intro gb163 hg w62 hbox hb; have n0_ := Aside0.mk (Kd.R_below (Kd.R_elderB (rkw HO_7.out) gb163 (Nat.le_of_eq hg.symm)) hb); have n1_ := Aside0.mk (blkb BK156.out hb); have n2_ := Aside0.mk (blkb BK157.out hb); have n3_ := Aside0.mk (blkb BK158.out hb); have n4_ := Aside0.mk (below_step (hbw HB.out) hb); have n5_ := Aside0.mk (hbox); have n6_ := bsz HB hg; have n7_ := bsz HB hg; have n8_ := bnl BK156 hg; have n9_ := bng BK156 hg; have n10_ := bnl BK157 hg; have n11_ := bng BK157 hg; have n12_ := bnl BK158 hg; have n13_ := bng BK158 hg; clear HO_7; clear BK156; clear BK157; clear BK158; clear HB; have HO_7 := n0_; have BK156 := n1_; have BK157 := n2_; have BK158 := n3_; have HB := n4_; have BK163 := n5_; have GW163 := n6_; have GE163 := n7_; have NB156_163 := n8_; have NB163_156 := n9_; have NB157_163 := n10_; have NB163_157 := n11_; have NB158_163 := n12_; have NB163_158 := n13_; clear n0_ n1_ n2_ n3_ n4_ n5_ n6_ n7_ n8_ n9_ n10_ n11_ n12_ n13_; clear hb hbox hg; have hnb63 := NB163_156.out; have hnc63 := NB156_163.out; have hnb64 := NB163_157.out; have hnc64 := NB157_163.out; have hnb65 := NB163_158.out; have hnc65 := NB158_163.out; have hcz66_0 : w62.cell? ⟨gb163, 0, none⟩ = some (.int .i64 0) := ck BK163 0; have hcz66_1 : w62.cell? ⟨gb163, 1, none⟩ = some (.int .i64 0) := ck BK163 1; have hcz66_2 : w62.cell? ⟨gb163, 2, none⟩ = some (.int .i64 0) := ck BK163 2; have hcz66_3 : w62.cell? ⟨gb163, 3, none⟩ = some (.string (⟨#[]⟩ : ByteArray)) := ck BK163 3; have hcz66_4 : w62.cell? ⟨gb163, 4, none⟩ = some (.int .i64 0) := ck BK163 4; have hfz66_0 := blk_frozen BK163.out 0; have hfz66_1 := blk_frozen BK163.out 1; have hfz66_2 := blk_frozen BK163.out 2; have hfz66_3 := blk_frozen BK163.out 3; have hfz66_4 := blk_frozen BK163.out 4) | ((with_reducible refine gate_callee (f := 29) rfl ?_); refine goesL_ (some 28) rfl rfl Try.func29 (by kernel_rfl) rfl #[.agg #[.int .i64 ((rd_T44 l1 x23_2).f0), .int .i64 ((rd_T44 l1 x23_2).f1), .int .i64 ((rd_T44 l1 x23_2).f2), .string ((rd_T44 l1 x23_2).f3), .int .i64 ((rd_T44 l1 x23_2).f4)]] rfl (by (try simp only [List.map_toArray, List.map_cons, List.map_nil]); first | done | rfl | (simp only [List.length_drop, List.length_take]; rfl)) ?_; (with_reducible refine (nrzi_check.calls kj15 ((rd_T44 l1 x23_2).f0) ((rd_T44 l1 x23_2).f1) ((rd_T44 l1 x23_2).f2) ((rd_T44 l1 x23_2).f3) ((rd_T44 l1 x23_2).f4) t164 _ A20.out).mono ?_); rintro e w67 ⟨rfl, hb⟩; refine ⟨_, rfl, ?_⟩; have n0_ := Aside0.mk (Kd.R_below (by (with_reducible repeat (first | apply Kd.R_alloc | apply Kd.R_drewN | apply Kd.R_drew)); exact (Kd.R_mono (Kd.R_far (p := ⟨gb163, 4, none⟩) (Kd.R_far (p := ⟨gb163, 3, none⟩) (Kd.R_far (p := ⟨gb163, 2, none⟩) (Kd.R_far (p := ⟨gb163, 1, none⟩) (Kd.R_far (p := ⟨gb163, 0, none⟩) (Kd.R_mono HO_7.out (fun k_ hk => (⟨hk, hk.2⟩ : _ ∧ k_ ≠ gb163))) (fun _ hk => hk.2) (.int .i64 ((rd_T44 l1 x23_2).f0))) (fun _ hk => hk.2) (.int .i64 ((rd_T44 l1 x23_2).f1))) (fun _ hk => hk.2) (.int .i64 ((rd_T44 l1 x23_2).f2))) (fun _ hk => hk.2) (.string ((rd_T44 l1 x23_2).f3))) (fun _ hk => hk.2) (.int .i64 ((rd_T44 l1 x23_2).f4))) (fun _ h_ => h_.1))) hb); have n1_ := Aside0.mk (blk_below (g := gb156) (o := .cells #[.bool a0_0] 23 (0, 0)) (by (repeat (with_reducible first | refine blk_far ?_ NB156_163.out _ | refine blk_drewN ?_ _ | refine blk_drew ?_ | refine blk_alloc ?_ _)); exact BK156.out) hb); have n2_ := Aside0.mk (blk_below (g := gb157) (o := .cells #[.bool a0_0] 23 (0, 0)) (by (repeat (with_reducible first | refine blk_far ?_ NB157_163.out _ | refine blk_drewN ?_ _ | refine blk_drew ?_ | refine blk_alloc ?_ _)); exact BK157.out) hb); have n3_ := Aside0.mk (blk_below (g := gb158) (o := .cells #[.int .i64 x159000_2] 3 (0, 0)) (by (repeat (with_reducible first | refine blk_far ?_ NB158_163.out _ | refine blk_drewN ?_ _ | refine blk_drew ?_ | refine blk_alloc ?_ _)); exact BK158.out) hb); have n4_ := Aside0.mk (blk_below (g := gb163) (o := .cells #[.int .i64 ((rd_T44 l1 x23_2).f0), .int .i64 ((rd_T44 l1 x23_2).f1), .int .i64 ((rd_T44 l1 x23_2).f2), .string ((rd_T44 l1 x23_2).f3), .int .i64 ((rd_T44 l1 x23_2).f4)] 44 (0, 0)) (by (with_reducible repeat (first | refine blk_drewN ?_ _ | refine blk_drew ?_ | refine blk_alloc ?_ _)); refine blk_put (cs := #[.int .i64 ((rd_T44 l1 x23_2).f0), .int .i64 ((rd_T44 l1 x23_2).f1), .int .i64 ((rd_T44 l1 x23_2).f2), .string ((rd_T44 l1 x23_2).f3), .int .i64 0]) ?_ 4 _ rfl; (with_reducible repeat (first | refine blk_drewN ?_ _ | refine blk_drew ?_ | refine blk_alloc ?_ _)); refine blk_put (cs := #[.int .i64 ((rd_T44 l1 x23_2).f0), .int .i64 ((rd_T44 l1 x23_2).f1), .int .i64 ((rd_T44 l1 x23_2).f2), .string (⟨#[]⟩ : ByteArray), .int .i64 0]) ?_ 3 _ rfl; (with_reducible repeat (first | refine blk_drewN ?_ _ | refine blk_drew ?_ | refine blk_alloc ?_ _)); refine blk_put (cs := #[.int .i64 ((rd_T44 l1 x23_2).f0), .int .i64 ((rd_T44 l1 x23_2).f1), .int .i64 0, .string (⟨#[]⟩ : ByteArray), .int .i64 0]) ?_ 2 _ rfl; (with_reducible repeat (first | refine blk_drewN ?_ _ | refine blk_drew ?_ | refine blk_alloc ?_ _)); refine blk_put (cs := #[.int .i64 ((rd_T44 l1 x23_2).f0), .int .i64 0, .int .i64 0, .string (⟨#[]⟩ : ByteArray), .int .i64 0]) ?_ 1 _ rfl; (with_reducible repeat (first | refine blk_drewN ?_ _ | refine blk_drew ?_ | refine blk_alloc ?_ _)); refine blk_put (cs := #[.int .i64 0, .int .i64 0, .int .i64 0, .string (⟨#[]⟩ : ByteArray), .int .i64 0]) ?_ 0 _ rfl; (with_reducible repeat (first | refine blk_drewN ?_ _ | refine blk_drew ?_ | refine blk_alloc ?_ _)); exact BK163.out) hb); have n5_ := Aside0.mk (below_step (hbw HB.out) hb); clear HO_7; clear BK156; clear BK157; clear BK158; clear BK163; clear HB; have HO_7 := n0_; have BK156 := n1_; have BK157 := n2_; have BK158 := n3_; have BK163 := n4_; have HB := n5_; clear n0_ n1_ n2_ n3_ n4_ n5_; (try clear hb); (try clear hb2); (try clear hk); (try clear hi)))
            go_ret2
            exact ⟨_, by first | rfl | (simp [errW_none, errW_some] <;> rfl) | (simp [*, errW_none, errW_some] <;> rfl), by first | exact Kd.R_nil _ _ _ _ _ | exact Kd.N_nil _ _ _ _ _ | exact Kd.V_nil _ _ _ _ _ | exact Kd.Q_nil _ _ _ _ _ | exact Kd.S_nil _ _ _ _ _, by repeat (first | (with_reducible first | exact HB.out | apply below_alloc | apply pw_below_drewN | apply below_drew1 | refine below_set ?_ GE156.out | refine below_set ?_ GE157.out | refine below_set ?_ GE158.out | refine below_set ?_ GE163.out) | exact HB.out)⟩
          ·rw [if_neg c19] at H
           exact absurd H (by simp)
         ·rw [if_neg c18] at H
          exact absurd H (by simp)
    ·rw [if_neg c7] at H
     exact absurd H (by simp)
   ·rw [if_neg c6] at H
    exact absurd H (by simp)

end Go.Proofs.Ytjgfhccibljkbaa.PNrziDecodes
