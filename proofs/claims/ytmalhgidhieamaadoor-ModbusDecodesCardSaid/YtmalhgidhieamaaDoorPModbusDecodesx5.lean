-- Written by a program of this session (wip/tools/pr.py), which calls the kit's print with changes of its own.
import Derived.Test.YtmalhgidhieamaaDoorPModbusDecodesx0
import Derived.Test.YtmalhgidhieamaaDoorPModbusDecodesx3
import Derived.Test.YtmalhgidhieamaaDoorPModbusDecodesx4
namespace Go.Proofs.YtmalhgidhieamaaDoor.PModbusDecodes
open Go.RowKit Go.Proofs.YtmalhgidhieamaaDoorW.PrintWords Go.Proofs.YtmalhgidhieamaaDoorW.PrintLast Go.Proofs.YtmalhgidhieamaaDoorW.PrintMore
attribute [local go_sem] max2_int min2_int max_two min_two max_three min_three max_four min_four   -- for this text's walks alone
set_option linter.unusedVariables false
set_option linter.unusedSimpArgs false

/-! ### check_Bytes: function 39 -/
mutual
def check_Bytes.j0 : Nat → ByteArray → Int → Int → Int → Int → Bool → Option (Int × Int)
 | 0, _, _, _, _, _, _ => none
 | k + 1, x1, x109000, x109001, x109002, x109003, x109004 => if (x1.size : Int) > 8192 then (some (0, 6)) else (check_Bytes.j1 k x1 x109000 x109001 x109002 x109003 x109004)
def check_Bytes.j1 : Nat → ByteArray → Int → Int → Int → Int → Bool → Option (Int × Int)
 | 0, _, _, _, _, _, _ => none
 | k + 1, x1, x109000, x109001, x109002, x109003, x109004 => check_Bytes.l0 k x1 x109002 (x1.size : Int) 0 x109000 x109001 x109002 x109003 x109004
def check_Bytes.l0 : Nat → ByteArray → Int → Int → Int → Int → Int → Int → Int → Bool → Option (Int × Int)
 | 0, _, _, _, _, _, _, _, _, _ => none
 | k + 1, x1, x6, x18, x19, x109000, x109001, x109002, x109003, x109004 => if x19 < x18 then (check_Bytes.j3 k x1 x6 x18 x19 x109000 x109001 x109002 x109003 x109004) else ((check_finish.f k x109000 x109001 x109002 x109003 x109004 x6).bind fun t110 => (some (t110, 0)))
def check_Bytes.j3 : Nat → ByteArray → Int → Int → Int → Int → Int → Int → Int → Bool → Option (Int × Int)
 | 0, _, _, _, _, _, _, _, _, _ => none
 | k + 1, x1, x6, x18, x19, x109000, x109001, x109002, x109003, x109004 => check_Bytes.l1 k x1 x6 x19 x18 x19 0 x109000 x109001 x109002 x109003 x109004
def check_Bytes.l1 : Nat → ByteArray → Int → Int → Int → Int → Int → Int → Int → Int → Int → Bool → Option (Int × Int)
 | 0, _, _, _, _, _, _, _, _, _, _, _ => none
 | k + 1, x1, x6, x7, x18, x19, x22, x109000, x109001, x109002, x109003, x109004 => if x22 < 8 then (if x109004 = true then (if 0 ≤ x7 then (if x7 < (x1.size : Int) then (if 0 ≤ x22 then ((check_shift.f x109000 x109001 x109002 x109003 x109004 x6 (wrap64 (Go.bits .and .u8 (shr .u8 (bt x1 x7) x22) 1))).bind fun t111 => (check_Bytes.l1 k x1 t111 x7 x18 x19 (wrap64 (x22 + 1)) x109000 x109001 x109002 x109003 x109004)) else (none)) else (none)) else (none)) else (if 0 ≤ x7 then (if x7 < (x1.size : Int) then (if 0 ≤ (wrap64 (7 - x22)) then ((check_shift.f x109000 x109001 x109002 x109003 x109004 x6 (wrap64 (Go.bits .and .u8 (shr .u8 (bt x1 x7) (wrap64 (7 - x22))) 1))).bind fun t112 => (check_Bytes.l1 k x1 t112 x7 x18 x19 (wrap64 (x22 + 1)) x109000 x109001 x109002 x109003 x109004)) else (none)) else (none)) else (none))) else (check_Bytes.l0 k x1 x6 x18 (wrap64 (x19 + 1)) x109000 x109001 x109002 x109003 x109004)
end
def check_Bytes.f (k : Nat) (a0_0 : Int) (a0_1 : Int) (a0_2 : Int) (a0_3 : Int) (a0_4 : Bool) (a1 : ByteArray) : Option (Int × Int) := (check_Right.f k a0_0 a0_1 a0_2 a0_3 a0_4).bind fun t109 => (if t109 = true then (check_Bytes.j0 k a1 a0_0 a0_1 a0_2 a0_3 a0_4) else (some (0, 1)))
theorem check_Bytes.mono_l : ∀ k, (∀ y0 y1 y2 y3 y4 y5, LeO (check_Bytes.j0 k y0 y1 y2 y3 y4 y5) (check_Bytes.j0 (k + 1) y0 y1 y2 y3 y4 y5)) ∧ (∀ y0 y1 y2 y3 y4 y5, LeO (check_Bytes.j1 k y0 y1 y2 y3 y4 y5) (check_Bytes.j1 (k + 1) y0 y1 y2 y3 y4 y5)) ∧ (∀ y0 y1 y2 y3 y4 y5 y6 y7 y8, LeO (check_Bytes.l0 k y0 y1 y2 y3 y4 y5 y6 y7 y8) (check_Bytes.l0 (k + 1) y0 y1 y2 y3 y4 y5 y6 y7 y8)) ∧ (∀ y0 y1 y2 y3 y4 y5 y6 y7 y8, LeO (check_Bytes.j3 k y0 y1 y2 y3 y4 y5 y6 y7 y8) (check_Bytes.j3 (k + 1) y0 y1 y2 y3 y4 y5 y6 y7 y8)) ∧ (∀ y0 y1 y2 y3 y4 y5 y6 y7 y8 y9 y10, LeO (check_Bytes.l1 k y0 y1 y2 y3 y4 y5 y6 y7 y8 y9 y10) (check_Bytes.l1 (k + 1) y0 y1 y2 y3 y4 y5 y6 y7 y8 y9 y10))
 | 0 => ⟨fun _ _ _ _ _ _ r h => by simp [check_Bytes.j0] at h, fun _ _ _ _ _ _ r h => by simp [check_Bytes.j1] at h, fun _ _ _ _ _ _ _ _ _ r h => by simp [check_Bytes.l0] at h, fun _ _ _ _ _ _ _ _ _ r h => by simp [check_Bytes.j3] at h, fun _ _ _ _ _ _ _ _ _ _ _ r h => by simp [check_Bytes.l1] at h⟩
 | k + 1 => by
  obtain ⟨ih0, ih1, ih2, ih3, ih4⟩ := check_Bytes.mono_l k
  refine ⟨?_, ?_, ?_, ?_, ?_⟩
  ·intro y0 y1 y2 y3 y4 y5
   unfold check_Bytes.j0
   repeat' first
   | (with_reducible exact ih0 _ _ _ _ _ _)
   | (with_reducible exact ih1 _ _ _ _ _ _)
   | (with_reducible exact ih2 _ _ _ _ _ _ _ _ _)
   | (with_reducible exact ih3 _ _ _ _ _ _ _ _ _)
   | (with_reducible exact ih4 _ _ _ _ _ _ _ _ _ _ _)
   | (with_reducible exact check_Right.mono _ _ _ _ _ _)
   | (with_reducible exact check_finish.mono _ _ _ _ _ _ _)
   | (with_reducible exact LeO.refl _)
   | (with_reducible exact LeO.none _)
   | (with_reducible refine LeO.ite ?_ ?_)
   | (with_reducible refine LeO.bind ?_ (fun _ => ?_))
   | exact ih0 _ _ _ _ _ _
   | exact ih1 _ _ _ _ _ _
   | exact ih2 _ _ _ _ _ _ _ _ _
   | exact ih3 _ _ _ _ _ _ _ _ _
   | exact ih4 _ _ _ _ _ _ _ _ _ _ _
   | exact check_Right.mono _ _ _ _ _ _
   | exact check_finish.mono _ _ _ _ _ _ _
   | exact LeO.none _
   | refine LeO.ite ?_ ?_
   | refine LeO.bind ?_ (fun _ => ?_)
  ·intro y0 y1 y2 y3 y4 y5
   unfold check_Bytes.j1
   repeat' first
   | (with_reducible exact ih0 _ _ _ _ _ _)
   | (with_reducible exact ih1 _ _ _ _ _ _)
   | (with_reducible exact ih2 _ _ _ _ _ _ _ _ _)
   | (with_reducible exact ih3 _ _ _ _ _ _ _ _ _)
   | (with_reducible exact ih4 _ _ _ _ _ _ _ _ _ _ _)
   | (with_reducible exact check_Right.mono _ _ _ _ _ _)
   | (with_reducible exact check_finish.mono _ _ _ _ _ _ _)
   | (with_reducible exact LeO.refl _)
   | (with_reducible exact LeO.none _)
   | (with_reducible refine LeO.ite ?_ ?_)
   | (with_reducible refine LeO.bind ?_ (fun _ => ?_))
   | exact ih0 _ _ _ _ _ _
   | exact ih1 _ _ _ _ _ _
   | exact ih2 _ _ _ _ _ _ _ _ _
   | exact ih3 _ _ _ _ _ _ _ _ _
   | exact ih4 _ _ _ _ _ _ _ _ _ _ _
   | exact check_Right.mono _ _ _ _ _ _
   | exact check_finish.mono _ _ _ _ _ _ _
   | exact LeO.none _
   | refine LeO.ite ?_ ?_
   | refine LeO.bind ?_ (fun _ => ?_)
  ·intro y0 y1 y2 y3 y4 y5 y6 y7 y8
   unfold check_Bytes.l0
   repeat' first
   | (with_reducible exact ih0 _ _ _ _ _ _)
   | (with_reducible exact ih1 _ _ _ _ _ _)
   | (with_reducible exact ih2 _ _ _ _ _ _ _ _ _)
   | (with_reducible exact ih3 _ _ _ _ _ _ _ _ _)
   | (with_reducible exact ih4 _ _ _ _ _ _ _ _ _ _ _)
   | (with_reducible exact check_Right.mono _ _ _ _ _ _)
   | (with_reducible exact check_finish.mono _ _ _ _ _ _ _)
   | (with_reducible exact LeO.refl _)
   | (with_reducible exact LeO.none _)
   | (with_reducible refine LeO.ite ?_ ?_)
   | (with_reducible refine LeO.bind ?_ (fun _ => ?_))
   | exact ih0 _ _ _ _ _ _
   | exact ih1 _ _ _ _ _ _
   | exact ih2 _ _ _ _ _ _ _ _ _
   | exact ih3 _ _ _ _ _ _ _ _ _
   | exact ih4 _ _ _ _ _ _ _ _ _ _ _
   | exact check_Right.mono _ _ _ _ _ _
   | exact check_finish.mono _ _ _ _ _ _ _
   | exact LeO.none _
   | refine LeO.ite ?_ ?_
   | refine LeO.bind ?_ (fun _ => ?_)
  ·intro y0 y1 y2 y3 y4 y5 y6 y7 y8
   unfold check_Bytes.j3
   repeat' first
   | (with_reducible exact ih0 _ _ _ _ _ _)
   | (with_reducible exact ih1 _ _ _ _ _ _)
   | (with_reducible exact ih2 _ _ _ _ _ _ _ _ _)
   | (with_reducible exact ih3 _ _ _ _ _ _ _ _ _)
   | (with_reducible exact ih4 _ _ _ _ _ _ _ _ _ _ _)
   | (with_reducible exact check_Right.mono _ _ _ _ _ _)
   | (with_reducible exact check_finish.mono _ _ _ _ _ _ _)
   | (with_reducible exact LeO.refl _)
   | (with_reducible exact LeO.none _)
   | (with_reducible refine LeO.ite ?_ ?_)
   | (with_reducible refine LeO.bind ?_ (fun _ => ?_))
   | exact ih0 _ _ _ _ _ _
   | exact ih1 _ _ _ _ _ _
   | exact ih2 _ _ _ _ _ _ _ _ _
   | exact ih3 _ _ _ _ _ _ _ _ _
   | exact ih4 _ _ _ _ _ _ _ _ _ _ _
   | exact check_Right.mono _ _ _ _ _ _
   | exact check_finish.mono _ _ _ _ _ _ _
   | exact LeO.none _
   | refine LeO.ite ?_ ?_
   | refine LeO.bind ?_ (fun _ => ?_)
  ·intro y0 y1 y2 y3 y4 y5 y6 y7 y8 y9 y10
   unfold check_Bytes.l1
   repeat' first
   | (with_reducible exact ih0 _ _ _ _ _ _)
   | (with_reducible exact ih1 _ _ _ _ _ _)
   | (with_reducible exact ih2 _ _ _ _ _ _ _ _ _)
   | (with_reducible exact ih3 _ _ _ _ _ _ _ _ _)
   | (with_reducible exact ih4 _ _ _ _ _ _ _ _ _ _ _)
   | (with_reducible exact check_Right.mono _ _ _ _ _ _)
   | (with_reducible exact check_finish.mono _ _ _ _ _ _ _)
   | (with_reducible exact LeO.refl _)
   | (with_reducible exact LeO.none _)
   | (with_reducible refine LeO.ite ?_ ?_)
   | (with_reducible refine LeO.bind ?_ (fun _ => ?_))
   | exact ih0 _ _ _ _ _ _
   | exact ih1 _ _ _ _ _ _
   | exact ih2 _ _ _ _ _ _ _ _ _
   | exact ih3 _ _ _ _ _ _ _ _ _
   | exact ih4 _ _ _ _ _ _ _ _ _ _ _
   | exact check_Right.mono _ _ _ _ _ _
   | exact check_finish.mono _ _ _ _ _ _ _
   | exact LeO.none _
   | refine LeO.ite ?_ ?_
   | refine LeO.bind ?_ (fun _ => ?_)
theorem check_Bytes.mono : ∀ a0 a1 a2 a3 a4 a5 k, LeO (check_Bytes.f k a0 a1 a2 a3 a4 a5) (check_Bytes.f (k + 1) a0 a1 a2 a3 a4 a5) := by
 intro a0 a1 a2 a3 a4 a5 k
 obtain ⟨ih0, ih1, ih2, ih3, ih4⟩ := check_Bytes.mono_l k
 unfold check_Bytes.f
 repeat' first
   | (with_reducible exact ih0 _ _ _ _ _ _)
   | (with_reducible exact ih1 _ _ _ _ _ _)
   | (with_reducible exact ih2 _ _ _ _ _ _ _ _ _)
   | (with_reducible exact ih3 _ _ _ _ _ _ _ _ _)
   | (with_reducible exact ih4 _ _ _ _ _ _ _ _ _ _ _)
   | (with_reducible exact check_Right.mono _ _ _ _ _ _)
   | (with_reducible exact check_finish.mono _ _ _ _ _ _ _)
   | (with_reducible exact LeO.refl _)
   | (with_reducible exact LeO.none _)
   | (with_reducible refine LeO.ite ?_ ?_)
   | (with_reducible refine LeO.bind ?_ (fun _ => ?_))
   | exact ih0 _ _ _ _ _ _
   | exact ih1 _ _ _ _ _ _
   | exact ih2 _ _ _ _ _ _ _ _ _
   | exact ih3 _ _ _ _ _ _ _ _ _
   | exact ih4 _ _ _ _ _ _ _ _ _ _ _
   | exact check_Right.mono _ _ _ _ _ _
   | exact check_finish.mono _ _ _ _ _ _ _
   | exact LeO.none _
   | refine LeO.ite ?_ ?_
   | refine LeO.bind ?_ (fun _ => ?_)
def check_Bytes.T14 : Bool × List (List Nat × List Nat) := (true, [([], []), ([], []), ([], []), ([], []), ([2, 3], [2, 3]), ([], []), ([4, 5], [4, 5]), ([6], [6]), ([7], [7]), ([0, 1, 8], [0, 1, 8]), ([9, 9, 0, 1, 2, 3, 4, 5, 6, 7, 8, 9], [1, 9])])
def check_Bytes.B14 : List Nat := [0, 0, 0, 0, 12, 0, 60, 124, 252, 511, 1023]
theorem check_Bytes.tab14 : rtab .any (opsOf Tryd.f39 14) = check_Bytes.T14 := by kernel_rfl
theorem check_Bytes.bits14 : waitsOk check_Bytes.T14.2 check_Bytes.B14 = true := by kernel_rfl
set_option maxHeartbeats 8000000 in
set_option maxRecDepth 100000 in
theorem check_Bytes.calls (k : Nat) (a0_0 : Int) (a0_1 : Int) (a0_2 : Int) (a0_3 : Int) (a0_4 : Bool) (a1 : ByteArray) (r1 : Int) (r2 : Int) (w : World) (h : check_Bytes.f k a0_0 a0_1 a0_2 a0_3 a0_4 a1 = some (r1, r2)) :
  Calls Tryd.prog 39 #[.agg #[.int .i64 a0_0, .int .i64 a0_1, .int .i64 a0_2, .int .i64 a0_3, .bool a0_4], .string a1] w fun e w' => e = .returned (.tuple #[.int .i64 r1, .int .i64 r2]) ∧ Below w.heap.size w w' := by
 have hu67 := Tryd.underlying67; have HB := sA (Below.refl w.heap.size w); have H : ((check_Right.f k a0_0 a0_1 a0_2 a0_3 a0_4).bind fun t109 => (if t109 = true then (check_Bytes.j0 k a1 a0_0 a0_1 a0_2 a0_3 a0_4) else (some (0, 1)))) = some (r1, r2) := h; clear h; replace H := Option.bind_eq_some_iff.mp H; obtain ⟨t109, A30, H⟩ := H; replace H : (if t109 = true then (check_Bytes.j0 k a1 a0_0 a0_1 a0_2 a0_3 a0_4) else (some (0, 1))) = some (r1, r2) := H; have A3 := sA A30; clear A30; have HC4 := sA H; clear H
 go_enter Tryd.func39, Tryd.ntmps39
 go_upto_if 11 with (first | ((with_reducible refine gate_dst (N := 2) rfl ?_); refine boxK 2 #[.int .i64 a0_0, .int .i64 a0_1, .int .i64 a0_2, .int .i64 a0_3, .bool a0_4] 67 ?_; intro gb108 hg w5 hbox hb; have BK108 := sA hbox; have GW108 := bsz HB hg; have GE108 := bsz HB hg; replace HB := bst HB hb; clear hb hbox hg; obtain ⟨hcz6_0,hcz6_1,hcz6_2,hcz6_3,hcz6_4,hfz6_0,hfz6_1,hfz6_2,hfz6_3,hfz6_4⟩ := cQ5 BK108) | ((with_reducible refine gate_callee (f := 40) rfl ?_); refine goesK (some 10) Tryd.func40 #[.agg #[.int .i64 a0_0, .int .i64 a0_1, .int .i64 a0_2, .int .i64 a0_3, .bool a0_4]] ?_; (with_reducible refine (check_Right.calls k a0_0 a0_1 a0_2 a0_3 a0_4 t109 _ A3.out).mono ?_); rintro e w7 ⟨rfl, hb⟩; refine ⟨_, rfl, ?_⟩; replace BK108 := sA (blkb BK108.out hb); replace HB := bst HB hb; (try clear hb)))
 (try simp only [Act.put, List.setIfInBounds_toArray, List.set_cons_zero, List.set_cons_succ])
 go_cut [] (fun wc => ∃ (kq : Nat), Aside0 (check_Bytes.j0 kq a1 a0_0 a0_1 a0_2 a0_3 a0_4 = some (r1, r2)) ∧ Aside0 (kq ≤ k) ∧ Aside0 (wc.heap[gb108]? = some (.cells #[.int .i64 a0_0, .int .i64 a0_1, .int .i64 a0_2, .int .i64 a0_3, .bool a0_4] 67 (0, 0))) ∧ Aside0 (Below w.heap.size w wc))
 case first =>
  have H := HC4.out; clear HC4
  by_cases c8 : t109 = true
  ·subst c8
   have H1 : (check_Bytes.j0 k a1 a0_0 a0_1 a0_2 a0_3 a0_4) = some (r1, r2) := by rw [if_pos rfl] at H; exact H
   clear H; have H := H1; clear H1; have H' := sA H; clear H
   go_wp2
   go_meet
   case rel => exact ⟨_, H', ⟨by first | omega | exact Nat.le_refl _⟩, ⟨bkw BK108.out⟩, ⟨hbw HB.out⟩⟩
  ·replace c8 := Bool.eq_false_iff.mpr c8
   subst c8
   have H1 : (some (0, 1)) = some (r1, r2) := by rw [if_neg (show ¬ (false = true) by decide)] at H; exact H
   clear H; have H := H1; clear H1
   simp only [Option.some.injEq, Prod.mk.injEq] at H
   obtain ⟨rfl, rfl⟩ := H
   go_wp2
   go_ret2
   exact ⟨eW_, hbw HB.out⟩
 case rest =>
  clear HC4
  try clear hcz6_0
  try clear hcz6_1
  try clear hcz6_2
  try clear hcz6_3
  try clear hcz6_4
  try clear hfz6_0
  try clear hfz6_1
  try clear hfz6_2
  try clear hfz6_3
  try clear hfz6_4
  obtain ⟨kq, HA, HJ3, BK108, HB⟩ := hcut
  cases kq with
  | zero => exact absurd HA.out (by simp [check_Bytes.j0])
  | succ kj3 =>
   have H := HA.out; clear HA
   simp only [check_Bytes.j0] at H
   have HC9 := sA H; clear H
   go_upto_if 14 with (fail)
   go_cut [] (fun wc => ∃ (kq : Nat), Aside0 (check_Bytes.j1 kq a1 a0_0 a0_1 a0_2 a0_3 a0_4 = some (r1, r2)) ∧ Aside0 (kq ≤ kj3) ∧ Aside0 (wc.heap[gb108]? = some (.cells #[.int .i64 a0_0, .int .i64 a0_1, .int .i64 a0_2, .int .i64 a0_3, .bool a0_4] 67 (0, 0))) ∧ Aside0 (Below w.heap.size w wc))
   case first =>
    have H := HC9.out; clear HC9
    by_cases c10 : (a1.size : Int) > 8192
    ·rw [if_pos c10] at H
     have c10b0 : decide (8192 < (a1.size : Int)) = true := decide_eq_true c10; have c10b1 : decide (8192 < a1.size) = true := decide_eq_true (by omega); clear c10
     (first | rw [c10b0] | (simp only [i64_w, i32_w]; rw [c10b0]) | skip)
     simp only [Option.some.injEq, Prod.mk.injEq] at H
     obtain ⟨rfl, rfl⟩ := H
     go_wp2
     go_ret2
     exact ⟨eW_, hbw HB.out⟩
    ·rw [if_neg c10] at H
     have c10b0 : decide (8192 < (a1.size : Int)) = false := decide_eq_false c10; have c10b1 : decide (8192 < a1.size) = false := decide_eq_false (by omega); clear c10
     (first | rw [c10b0] | (simp only [i64_w, i32_w]; rw [c10b0]) | skip)
     have H' := sA H; clear H
     go_wp2
     go_meet
     case rel => exact ⟨_, H', ⟨by have := HJ3.out; first | omega | exact Nat.le_refl _⟩, ⟨bkw BK108.out⟩, ⟨hbw HB.out⟩⟩
   case rest =>
    clear HC9
    try clear hcz6_0
    try clear hcz6_1
    try clear hcz6_2
    try clear hcz6_3
    try clear hcz6_4
    try clear hfz6_0
    try clear hfz6_1
    try clear hfz6_2
    try clear hfz6_3
    try clear hfz6_4
    obtain ⟨kq, HA, HJ8, BK108, HB⟩ := hcut
    cases kq with
    | zero => exact absurd HA.out (by simp [check_Bytes.j1])
    | succ kj8 =>
     have H := HA.out; clear HA
     simp only [check_Bytes.j1] at H
     have H' := sA H; clear H; obtain ⟨hcz11_0,hcz11_1,hcz11_2,hcz11_3,hcz11_4,hfz11_0,hfz11_1,hfz11_2,hfz11_3,hfz11_4⟩ := cQ5 BK108
     go_wp2
     go_loopg [6, 19] kj8 (fun kq v6 v19 w' => ∃ (x6_3 : Int) (x19_3 : Int), v6 = .int .i64 x6_3 ∧ v19 = .int .i64 x19_3 ∧ Aside0 (check_Bytes.l0 kq a1 x6_3 (a1.size : Int) x19_3 a0_0 a0_1 a0_2 a0_3 a0_4 = some (r1, r2)) ∧ Aside0 (kq ≤ kj8) ∧ Aside0 (w'.heap[gb108]? = some (.cells #[.int .i64 a0_0, .int .i64 a0_1, .int .i64 a0_2, .int .i64 a0_3, .bool a0_4] 67 (0, 0))) ∧ Aside0 (Below w.heap.size w w'))
     case atStart => exact ⟨(a0_2), (0), (by first | rfl | (simp; done) | (simp [*]; done)), (by first | rfl | (simp; done) | (simp [*]; done)), H', ⟨Nat.le_refl _⟩, ⟨bkw BK108.out⟩, ⟨hbw HB.out⟩⟩
     case round =>
      clear H'
      try clear hcz11_0
      try clear hcz11_1
      try clear hcz11_2
      try clear hcz11_3
      try clear hcz11_4
      try clear hcz6_0
      try clear hcz6_1
      try clear hcz6_2
      try clear hcz6_3
      try clear hcz6_4
      try clear hfz11_0
      try clear hfz11_1
      try clear hfz11_2
      try clear hfz11_3
      try clear hfz11_4
      try clear hfz6_0
      try clear hfz6_1
      try clear hfz6_2
      try clear hfz6_3
      try clear hfz6_4
      obtain ⟨x6_3, x19_3, rfl, rfl, HA, HK3, BK108, HB⟩ := hrel
      cases gk with
      | zero => exact absurd HA.out (by simp [check_Bytes.l0])
      | succ k3 =>
       have H := HA.out; clear HA
       simp only [check_Bytes.l0] at H
       have HC12 := sA H; clear H
       go_upto_if 20 with (fail)
       go_cut [] (fun wc => ∃ (kq : Nat), Aside0 (check_Bytes.j3 kq a1 x6_3 (a1.size : Int) x19_3 a0_0 a0_1 a0_2 a0_3 a0_4 = some (r1, r2)) ∧ Aside0 (kq ≤ k3) ∧ Aside0 (wc.heap[gb108]? = some (.cells #[.int .i64 a0_0, .int .i64 a0_1, .int .i64 a0_2, .int .i64 a0_3, .bool a0_4] 67 (0, 0))) ∧ Aside0 (Below w.heap.size w wc))
       case first =>
        have H := HC12.out; clear HC12
        by_cases c13 : x19_3 < (a1.size : Int)
        ·rw [if_pos c13] at H
         have c13b0 : decide (x19_3 < (a1.size : Int)) = true := decide_eq_true c13; clear c13
         (first | rw [c13b0] | (simp only [i64_w, i32_w]; rw [c13b0]) | skip)
         have H' := sA H; clear H
         go_wp2
         go_meet
         case rel => exact ⟨_, H', ⟨by have := HJ3.out; have := HJ8.out; have := HK3.out; first | omega | exact Nat.le_refl _⟩, ⟨bkw BK108.out⟩, ⟨hbw HB.out⟩⟩
        ·rw [if_neg c13] at H
         have c13b0 : decide (x19_3 < (a1.size : Int)) = false := decide_eq_false c13; clear c13
         (first | rw [c13b0] | (simp only [i64_w, i32_w]; rw [c13b0]) | skip)
         replace H := Option.bind_eq_some_iff.mp H; obtain ⟨t110, A140, H⟩ := H; replace H : (some (t110, 0)) = some (r1, r2) := H; have A14 := sA A140; clear A140
         simp only [Option.some.injEq, Prod.mk.injEq] at H
         obtain ⟨rfl, rfl⟩ := H; obtain ⟨_,_,_,_,_,_,_,_,_,_⟩ := cQ5 BK108
         go_wp2_with (first | ((with_reducible refine gate_callee (f := 42) rfl ?_); refine goesK (some 44) Tryd.func42 #[.agg #[.int .i64 a0_0, .int .i64 a0_1, .int .i64 a0_2, .int .i64 a0_3, .bool a0_4], .int .i64 x6_3] ?_; (with_reducible refine (check_finish.calls k3 a0_0 a0_1 a0_2 a0_3 a0_4 x6_3 t110 _ A14.out).mono ?_); rintro e w16 ⟨rfl, hb⟩; refine ⟨_, rfl, ?_⟩; replace BK108 := sA (blkb BK108.out hb); replace HB := bst HB hb; (try clear hb)))
         go_ret2
         exact ⟨eW_, hbw HB.out⟩
       case rest =>
        clear HC12
        try clear hcz11_0
        try clear hcz11_1
        try clear hcz11_2
        try clear hcz11_3
        try clear hcz11_4
        try clear hcz6_0
        try clear hcz6_1
        try clear hcz6_2
        try clear hcz6_3
        try clear hcz6_4
        try clear hfz11_0
        try clear hfz11_1
        try clear hfz11_2
        try clear hfz11_3
        try clear hfz11_4
        try clear hfz6_0
        try clear hfz6_1
        try clear hfz6_2
        try clear hfz6_3
        try clear hfz6_4
        obtain ⟨kq, HA, HJ11, BK108, HB⟩ := hcut
        cases kq with
        | zero => exact absurd HA.out (by simp [check_Bytes.j3])
        | succ kj11 =>
         have H := HA.out; clear HA
         simp only [check_Bytes.j3] at H
         have H' := sA H; clear H
         go_wp2
         go_loopg [6, 22] kj11 (fun kq v6 v22 w' => ∃ (x6_5 : Int) (x22_5 : Int), v6 = .int .i64 x6_5 ∧ v22 = .int .i64 x22_5 ∧ Aside0 (check_Bytes.l1 kq a1 x6_5 x19_3 (a1.size : Int) x19_3 x22_5 a0_0 a0_1 a0_2 a0_3 a0_4 = some (r1, r2)) ∧ Aside0 (kq ≤ kj11) ∧ Aside0 (w'.heap[gb108]? = some (.cells #[.int .i64 a0_0, .int .i64 a0_1, .int .i64 a0_2, .int .i64 a0_3, .bool a0_4] 67 (0, 0))) ∧ Aside0 (Below w.heap.size w w'))
         case atStart => exact ⟨(x6_3), (0), (by first | rfl | (simp; done) | (simp [*]; done)), (by first | rfl | (simp; done) | (simp [*]; done)), H', ⟨Nat.le_refl _⟩, ⟨bkw BK108.out⟩, ⟨hbw HB.out⟩⟩
         case round =>
          clear H'
          try clear hcz11_0
          try clear hcz11_1
          try clear hcz11_2
          try clear hcz11_3
          try clear hcz11_4
          try clear hcz6_0
          try clear hcz6_1
          try clear hcz6_2
          try clear hcz6_3
          try clear hcz6_4
          try clear hfz11_0
          try clear hfz11_1
          try clear hfz11_2
          try clear hfz11_3
          try clear hfz11_4
          try clear hfz6_0
          try clear hfz6_1
          try clear hfz6_2
          try clear hfz6_3
          try clear hfz6_4
          obtain ⟨x6_5, x22_5, rfl, rfl, HA, HK5, BK108, HB⟩ := hrel
          cases gk with
          | zero => exact absurd HA.out (by simp [check_Bytes.l1])
          | succ k5 =>
           have H := HA.out; clear HA
           simp only [check_Bytes.l1] at H
           by_cases c17 : x22_5 < 8
           ·rw [if_pos c17] at H
            have c17b0 : decide (x22_5 < 8) = true := decide_eq_true c17; clear c17
            by_cases c18 : a0_4 = true
            ·subst c18
             have H1 : (if 0 ≤ x19_3 then (if x19_3 < (a1.size : Int) then (if 0 ≤ x22_5 then ((check_shift.f a0_0 a0_1 a0_2 a0_3 true x6_5 (wrap64 (Go.bits .and .u8 (shr .u8 (bt a1 x19_3) x22_5) 1))).bind fun t111 => (check_Bytes.l1 k5 a1 t111 x19_3 (a1.size : Int) x19_3 (wrap64 (x22_5 + 1)) a0_0 a0_1 a0_2 a0_3 true)) else (none)) else (none)) else (none)) = some (r1, r2) := by rw [if_pos rfl] at H; exact H
             clear H; have H := H1; clear H1
             by_cases c19 : 0 ≤ x19_3
             ·rw [if_pos c19] at H
              have c19b0 : decide (0 ≤ x19_3) = true := decide_eq_true c19; clear c19
              by_cases c20 : x19_3 < (a1.size : Int)
              ·rw [if_pos c20] at H
               have c20b0 : decide (x19_3 < (a1.size : Int)) = true := decide_eq_true c20; clear c20
               by_cases c22 : 0 ≤ x22_5
               ·rw [if_pos c22] at H
                have c22b0 := eq_true c22; have c22b1 : decide (0 ≤ x22_5) = true := decide_eq_true c22; clear c22; obtain ⟨ji23, hji23⟩ : ∃ j_ : Int, (shr .u8 (bt a1 x19_3) x22_5) = j_ := ⟨_, rfl⟩
                replace H : ((check_shift.f a0_0 a0_1 a0_2 a0_3 true x6_5 (wrap64 (Go.bits .and .u8 (ji23) 1))).bind fun t111 => (check_Bytes.l1 k5 a1 t111 x19_3 (a1.size : Int) x19_3 (wrap64 (x22_5 + 1)) a0_0 a0_1 a0_2 a0_3 true)) = some (r1, r2) := by first | (rw [hji23] at H; exact H) | (simp only [hji23] at H ⊢; exact H)
                have hji23_ : ((bt a1 x19_3) / 2 ^ min x22_5.toNat 8) = ji23 := hji23; have hji23z : x22_5 ≤ 8 → ((bt a1 x19_3) / 2 ^ x22_5.toNat) = ji23 := shr_small hji23; replace H := Option.bind_eq_some_iff.mp H; obtain ⟨t111, A240, H⟩ := H; replace H : (check_Bytes.l1 k5 a1 t111 x19_3 (a1.size : Int) x19_3 (wrap64 (x22_5 + 1)) a0_0 a0_1 a0_2 a0_3 true) = some (r1, r2) := H; have A24 := sA A240; clear A240; have H' := sA H; clear H; obtain ⟨_,_,_,_,_,_,_,_,_,_⟩ := cQ5 BK108
                try go_wp2
                replace BK108 := sA (blk_drew BK108.out); replace HB := sA (below_drew1 HB.out); have p21 : 0 ≤ (x19_3 : Int) := of_decide_eq_true (by first | (with_reducible assumption) | assumption); have q21 : x19_3 < (a1.size : Int) := of_decide_eq_true (by first | (with_reducible assumption) | assumption); have hx21 := bt_at a1 x19_3; replace p21 := eq_true p21; replace q21 := eq_true q21; refine start_ (n := 11) (S := fun w' => w'.cell? ⟨gb108, 0, none⟩ = some (.int .i64 a0_0) ∧ w'.cell? ⟨gb108, 1, none⟩ = some (.int .i64 a0_1) ∧ w'.cell? ⟨gb108, 2, none⟩ = some (.int .i64 a0_2) ∧ w'.cell? ⟨gb108, 3, none⟩ = some (.int .i64 a0_3) ∧ w'.cell? ⟨gb108, 4, none⟩ = some (.bool true)) (ds := []) #[N_,N_,N_,N_,N_,N_,N_,N_,N_,N_,N_] (by kernel_rfl) rfl rfl ⟨ck BK108 0, ck BK108 1, ck BK108 2, ck BK108 3, ck BK108 4⟩ (fun hHeld => ?_); refine with_tabW check_Bytes.tab14 check_Bytes.bits14 (fun HT_ HW_ => ?_)
                generalize wr.drew = w26 at BK108 HB hHeld ⊢
                refine pstep 1 (some 31) #[N_,Y_,N_,N_,N_,N_,N_,N_,N_,N_,N_] HT_.out ?_; refine pstep 2 (some 32) #[N_,Y_,Y_,N_,N_,N_,N_,N_,N_,N_,N_] HT_.out ?_; refine pstep 3 (some 33) #[N_,Y_,Y_,Y_,N_,N_,N_,N_,N_,N_,N_] HT_.out ?_; refine pstep 5 (some 35) #[N_,Y_,Y_,Y_,N_,Y_,N_,N_,N_,N_,N_] HT_.out ?_; refine take_ (i := 0) (N := some 30) (v := ?_) (a' := ?_) #[Y_,Y_,Y_,Y_,N_,Y_,N_,N_,N_,N_,N_] rfl rfl (take_ofW HT_.out HW_.out (by kernel_rfl)) (fun _ _ _ h => h) (Or.inl ⟨by rfl, ?_⟩) hHeld ?_ ?_; rotate_left
                ·rintro w' ⟨s0, s1, s2, s3, s4⟩
                 go_simp
                 with_reducible rfl
                rotate_left
                ·simp only [Act.put, nrm]
                 rfl
                refine take_ (i := 4) (N := some 34) (v := ?_) (a' := ?_) #[Y_,Y_,Y_,Y_,Y_,Y_,N_,N_,N_,N_,N_] rfl rfl (take_ofW HT_.out HW_.out (by kernel_rfl)) (fun _ _ _ h => h) (Or.inl ⟨by rfl, ?_⟩) hHeld ?_ ?_; rotate_left
                ·rintro w' ⟨s0, s1, s2, s3, s4⟩
                 go_simp
                 with_reducible rfl
                rotate_left
                ·simp only [Act.put, nrm]
                 rfl
                refine pstep 6 (some 36) #[Y_,Y_,Y_,Y_,Y_,Y_,Y_,N_,N_,N_,N_] HT_.out ?_; refine pstep 7 (some 37) #[Y_,Y_,Y_,Y_,Y_,Y_,Y_,Y_,N_,N_,N_] HT_.out ?_; refine pstep 8 (some 38) #[Y_,Y_,Y_,Y_,Y_,Y_,Y_,Y_,Y_,N_,N_] HT_.out ?_; refine one_ (i := 9) (N := some 39) #[Y_,Y_,Y_,Y_,Y_,Y_,Y_,Y_,Y_,Y_,N_] rfl rfl (one_of HT_.out (by kernel_rfl)) (by decide) (fun K hK => ?_); refine goes_ Tryd.func41 (by kernel_rfl) rfl #[.agg #[.int .i64 a0_0, .int .i64 a0_1, .int .i64 a0_2, .int .i64 a0_3, .bool true], .int .i64 x6_5, .int .i64 (wrap64 (Go.bits .and .u8 (ji23) 1))] (by rfl) rfl rfl (by (try simp only [List.map_toArray, List.map_cons, List.map_nil]); first | done | (simp only [hji23]; rfl) | rfl | (simp only [List.length_drop, List.length_take]; rfl)) ?_; (with_reducible refine (check_shift.calls a0_0 a0_1 a0_2 a0_3 true x6_5 (wrap64 (Go.bits .and .u8 (ji23) 1)) t111 _ A24.out).mono ?_); rintro e w27 ⟨rfl, hb⟩; refine ⟨_, rfl, ?_⟩; replace BK108 := bkB BK108 hb; replace HB := bst HB hb; (try clear hb); refine hK.out _ _ ⟨ck BK108 0, ck BK108 1, ck BK108 2, ck BK108 3, ck BK108 4⟩ (fun hHeld => ?_); clear hK K; refine norm_ (a' := ?_) ?_ ?_; rotate_left
                ·show Act.put _ (some 39) _ = _
                 simp only [Act.put, nrm]
                 rfl
                refine pstep 10 (some 6) #[Y_,Y_,Y_,Y_,Y_,Y_,Y_,Y_,Y_,Y_,Y_] HT_.out ?_; refine done_ (done_of HT_.out (by kernel_rfl)) ?_
                try go_wp2
                go_roundg k5
                case measure => have := HJ3.out; have := HJ8.out; have := HK3.out; have := HJ11.out; have := HK5.out; omega
                case rel => exact ⟨(t111), (wrap64 (x22_5 + 1)), (by first | rfl | (simp; done) | (simp [*]; done)), (by first | rfl | (simp; done) | (simp [*]; done)), H', ⟨by have := HJ3.out; have := HJ8.out; have := HK3.out; have := HJ11.out; have := HK5.out; omega⟩, ⟨bkw BK108.out⟩, ⟨hbw HB.out⟩⟩
               ·rw [if_neg c22] at H
                exact absurd H (by simp)
              ·rw [if_neg c20] at H
               exact absurd H (by simp)
             ·rw [if_neg c19] at H
              exact absurd H (by simp)
            ·replace c18 := Bool.eq_false_iff.mpr c18
             subst c18
             have H1 : (if 0 ≤ x19_3 then (if x19_3 < (a1.size : Int) then (if 0 ≤ (wrap64 (7 - x22_5)) then ((check_shift.f a0_0 a0_1 a0_2 a0_3 false x6_5 (wrap64 (Go.bits .and .u8 (shr .u8 (bt a1 x19_3) (wrap64 (7 - x22_5))) 1))).bind fun t112 => (check_Bytes.l1 k5 a1 t112 x19_3 (a1.size : Int) x19_3 (wrap64 (x22_5 + 1)) a0_0 a0_1 a0_2 a0_3 false)) else (none)) else (none)) else (none)) = some (r1, r2) := by rw [if_neg (show ¬ (false = true) by decide)] at H; exact H
             clear H; have H := H1; clear H1
             by_cases c28 : 0 ≤ x19_3
             ·rw [if_pos c28] at H
              have c28b0 : decide (0 ≤ x19_3) = true := decide_eq_true c28; clear c28
              by_cases c29 : x19_3 < (a1.size : Int)
              ·rw [if_pos c29] at H
               have c29b0 : decide (x19_3 < (a1.size : Int)) = true := decide_eq_true c29; clear c29; obtain ⟨ji31, hji31⟩ : ∃ j_ : Int, (wrap64 (7 - x22_5)) = j_ := ⟨_, rfl⟩
               replace H : (if 0 ≤ (ji31) then ((check_shift.f a0_0 a0_1 a0_2 a0_3 false x6_5 (wrap64 (Go.bits .and .u8 (shr .u8 (bt a1 x19_3) (ji31)) 1))).bind fun t112 => (check_Bytes.l1 k5 a1 t112 x19_3 (a1.size : Int) x19_3 (wrap64 (x22_5 + 1)) a0_0 a0_1 a0_2 a0_3 false)) else (none)) = some (r1, r2) := by first | (rw [hji31] at H; exact H) | (simp only [hji31] at H ⊢; exact H)
               have hji31w : (IntKind.i64.wrap (7 - x22_5)) = ji31 := (i64_w _).trans hji31
               by_cases c32 : 0 ≤ (ji31)
               ·rw [if_pos c32] at H
                have c32b0 := eq_true c32; have c32b1 : decide (0 ≤ (ji31)) = true := decide_eq_true c32; clear c32; obtain ⟨ji33, hji33⟩ : ∃ j_ : Int, (shr .u8 (bt a1 x19_3) (ji31)) = j_ := ⟨_, rfl⟩
                replace H : ((check_shift.f a0_0 a0_1 a0_2 a0_3 false x6_5 (wrap64 (Go.bits .and .u8 (ji33) 1))).bind fun t112 => (check_Bytes.l1 k5 a1 t112 x19_3 (a1.size : Int) x19_3 (wrap64 (x22_5 + 1)) a0_0 a0_1 a0_2 a0_3 false)) = some (r1, r2) := by first | (rw [hji33] at H; exact H) | (simp only [hji33] at H ⊢; exact H)
                have hji33_ : ((bt a1 x19_3) / 2 ^ min (ji31).toNat 8) = ji33 := hji33; have hji33z : (ji31) ≤ 8 → ((bt a1 x19_3) / 2 ^ (ji31).toNat) = ji33 := shr_small hji33; replace H := Option.bind_eq_some_iff.mp H; obtain ⟨t112, A340, H⟩ := H; replace H : (check_Bytes.l1 k5 a1 t112 x19_3 (a1.size : Int) x19_3 (wrap64 (x22_5 + 1)) a0_0 a0_1 a0_2 a0_3 false) = some (r1, r2) := H; have A34 := sA A340; clear A340; have H' := sA H; clear H; obtain ⟨_,_,_,_,_,_,_,_,_,_⟩ := cQ5 BK108
                try go_wp2
                replace BK108 := sA (blk_drew BK108.out); replace HB := sA (below_drew1 HB.out); have p30 : 0 ≤ (x19_3 : Int) := of_decide_eq_true (by first | (with_reducible assumption) | assumption); have q30 : x19_3 < (a1.size : Int) := of_decide_eq_true (by first | (with_reducible assumption) | assumption); have hx30 := bt_at a1 x19_3; replace p30 := eq_true p30; replace q30 := eq_true q30; refine start_ (n := 11) (S := fun w' => w'.cell? ⟨gb108, 0, none⟩ = some (.int .i64 a0_0) ∧ w'.cell? ⟨gb108, 1, none⟩ = some (.int .i64 a0_1) ∧ w'.cell? ⟨gb108, 2, none⟩ = some (.int .i64 a0_2) ∧ w'.cell? ⟨gb108, 3, none⟩ = some (.int .i64 a0_3) ∧ w'.cell? ⟨gb108, 4, none⟩ = some (.bool false)) (ds := []) #[N_,N_,N_,N_,N_,N_,N_,N_,N_,N_,N_] (by kernel_rfl) rfl rfl ⟨ck BK108 0, ck BK108 1, ck BK108 2, ck BK108 3, ck BK108 4⟩ (fun hHeld => ?_); refine with_tabW check_Bytes.tab14 check_Bytes.bits14 (fun HT_ HW_ => ?_)
                generalize wr.drew = w36 at BK108 HB hHeld ⊢
                refine pstep 1 (some 31) #[N_,Y_,N_,N_,N_,N_,N_,N_,N_,N_,N_] HT_.out ?_; refine pstep 2 (some 32) #[N_,Y_,Y_,N_,N_,N_,N_,N_,N_,N_,N_] HT_.out ?_; refine pstep 3 (some 33) #[N_,Y_,Y_,Y_,N_,N_,N_,N_,N_,N_,N_] HT_.out ?_; refine pstep 5 (some 35) #[N_,Y_,Y_,Y_,N_,Y_,N_,N_,N_,N_,N_] HT_.out ?_; refine take_ (i := 0) (N := some 30) (v := ?_) (a' := ?_) #[Y_,Y_,Y_,Y_,N_,Y_,N_,N_,N_,N_,N_] rfl rfl (take_ofW HT_.out HW_.out (by kernel_rfl)) (fun _ _ _ h => h) (Or.inl ⟨by rfl, ?_⟩) hHeld ?_ ?_; rotate_left
                ·rintro w' ⟨s0, s1, s2, s3, s4⟩
                 go_simp
                 with_reducible rfl
                rotate_left
                ·simp only [Act.put, nrm]
                 rfl
                refine take_ (i := 4) (N := some 34) (v := ?_) (a' := ?_) #[Y_,Y_,Y_,Y_,Y_,Y_,N_,N_,N_,N_,N_] rfl rfl (take_ofW HT_.out HW_.out (by kernel_rfl)) (fun _ _ _ h => h) (Or.inl ⟨by rfl, ?_⟩) hHeld ?_ ?_; rotate_left
                ·rintro w' ⟨s0, s1, s2, s3, s4⟩
                 go_simp
                 with_reducible rfl
                rotate_left
                ·simp only [Act.put, nrm]
                 rfl
                refine pstep 6 (some 36) #[Y_,Y_,Y_,Y_,Y_,Y_,Y_,N_,N_,N_,N_] HT_.out ?_; refine pstep 7 (some 37) #[Y_,Y_,Y_,Y_,Y_,Y_,Y_,Y_,N_,N_,N_] HT_.out ?_; refine pstep 8 (some 38) #[Y_,Y_,Y_,Y_,Y_,Y_,Y_,Y_,Y_,N_,N_] HT_.out ?_; refine one_ (i := 9) (N := some 39) #[Y_,Y_,Y_,Y_,Y_,Y_,Y_,Y_,Y_,Y_,N_] rfl rfl (one_of HT_.out (by kernel_rfl)) (by decide) (fun K hK => ?_); refine goes_ Tryd.func41 (by kernel_rfl) rfl #[.agg #[.int .i64 a0_0, .int .i64 a0_1, .int .i64 a0_2, .int .i64 a0_3, .bool false], .int .i64 x6_5, .int .i64 (wrap64 (Go.bits .and .u8 (ji33) 1))] (by rfl) rfl rfl (by (try simp only [List.map_toArray, List.map_cons, List.map_nil]); first | done | (simp only [hji33]; rfl) | rfl | (simp only [List.length_drop, List.length_take]; rfl)) ?_; (with_reducible refine (check_shift.calls a0_0 a0_1 a0_2 a0_3 false x6_5 (wrap64 (Go.bits .and .u8 (ji33) 1)) t112 _ A34.out).mono ?_); rintro e w37 ⟨rfl, hb⟩; refine ⟨_, rfl, ?_⟩; replace BK108 := bkB BK108 hb; replace HB := bst HB hb; (try clear hb); refine hK.out _ _ ⟨ck BK108 0, ck BK108 1, ck BK108 2, ck BK108 3, ck BK108 4⟩ (fun hHeld => ?_); clear hK K; refine norm_ (a' := ?_) ?_ ?_; rotate_left
                ·show Act.put _ (some 39) _ = _
                 simp only [Act.put, nrm]
                 rfl
                refine pstep 10 (some 6) #[Y_,Y_,Y_,Y_,Y_,Y_,Y_,Y_,Y_,Y_,Y_] HT_.out ?_; refine done_ (done_of HT_.out (by kernel_rfl)) ?_
                try go_wp2
                go_roundg k5
                case measure => have := HJ3.out; have := HJ8.out; have := HK3.out; have := HJ11.out; have := HK5.out; omega
                case rel => exact ⟨(t112), (wrap64 (x22_5 + 1)), (by first | rfl | (simp; done) | (simp [*]; done)), (by first | rfl | (simp; done) | (simp [*]; done)), H', ⟨by have := HJ3.out; have := HJ8.out; have := HK3.out; have := HJ11.out; have := HK5.out; omega⟩, ⟨bkw BK108.out⟩, ⟨hbw HB.out⟩⟩
               ·rw [if_neg c32] at H
                exact absurd H (by simp)
              ·rw [if_neg c29] at H
               exact absurd H (by simp)
             ·rw [if_neg c28] at H
              exact absurd H (by simp)
           ·rw [if_neg c17] at H
            have c17b0 : decide (x22_5 < 8) = false := decide_eq_false c17; clear c17; have H' := sA H; clear H
            go_wp2
            go_roundg k5
            case measure => have := HJ3.out; have := HJ8.out; have := HK3.out; have := HJ11.out; have := HK5.out; omega
            case rel => exact ⟨(x6_5), (wrap64 (x19_3 + 1)), (by first | rfl | (simp; done) | (simp [*]; done)), (by first | rfl | (simp; done) | (simp [*]; done)), H', ⟨by have := HJ3.out; have := HJ8.out; have := HK3.out; have := HJ11.out; have := HK5.out; omega⟩, ⟨bkw BK108.out⟩, ⟨hbw HB.out⟩⟩

/-! ### modbus_sum: function 37 -/
def modbus_sum.f (k : Nat) (a0 : ByteArray) : Option (ByteArray) := (check_Named.f (⟨#[99, 114, 99, 49, 54, 109, 111, 100, 98, 117, 115]⟩ : ByteArray)).bind fun bt113 => ((check_Bytes.f k bt113.1 bt113.2.1 bt113.2.2.1 bt113.2.2.2.1 bt113.2.2.2.2.1 a0).bind fun bt120 => (some (strOfNums (([(bt120.1) % 256, (bt120.1 / 256) % 256] : List Int)))))
theorem modbus_sum.mono : ∀ a0 k, LeO (modbus_sum.f k a0) (modbus_sum.f (k + 1) a0) := by
 intro a0 k
 unfold modbus_sum.f
 repeat' first
   | (with_reducible exact check_Bytes.mono _ _ _ _ _ _ _)
   | (with_reducible exact LeO.refl _)
   | (with_reducible exact LeO.none _)
   | (with_reducible refine LeO.ite ?_ ?_)
   | (with_reducible refine LeO.bind ?_ (fun _ => ?_))
   | exact check_Bytes.mono _ _ _ _ _ _ _
   | exact LeO.none _
   | refine LeO.ite ?_ ?_
   | refine LeO.bind ?_ (fun _ => ?_)
set_option maxHeartbeats 8000000 in
set_option maxRecDepth 100000 in
theorem modbus_sum.calls (k : Nat) (a0 : ByteArray) (r : ByteArray) (w : World) (hT_ : TabOk w) (h : modbus_sum.f k a0 = some r) :
  Calls Tryd.prog 37 #[.string a0] w fun e w' => e = .returned (.string r) ∧ Below w.heap.size w w' := by
 have hu67 := Tryd.underlying67; have HB := sA (Below.refl w.heap.size w); have H : ((check_Named.f (⟨#[99, 114, 99, 49, 54, 109, 111, 100, 98, 117, 115]⟩ : ByteArray)).bind fun bt113 => ((check_Bytes.f k bt113.1 bt113.2.1 bt113.2.2.1 bt113.2.2.2.1 bt113.2.2.2.2.1 a0).bind fun bt120 => (some (strOfNums (([(bt120.1) % 256, (bt120.1 / 256) % 256] : List Int)))))) = some r := h; clear h; replace H := Option.bind_eq_some_iff.mp H; obtain ⟨⟨t113, t114, t115, t116, t117, t118⟩, A20, H⟩ := H; replace H : ((check_Bytes.f k t113 t114 t115 t116 t117 a0).bind fun bt120 => (some (strOfNums (([(bt120.1) % 256, (bt120.1 / 256) % 256] : List Int))))) = some r := H; have A2 := sA A20; clear A20; replace H := Option.bind_eq_some_iff.mp H; obtain ⟨⟨t120, t121⟩, A30, H⟩ := H; replace H : (some (strOfNums (([(t120) % 256, (t120 / 256) % 256] : List Int)))) = some r := H; have A3 := sA A30; clear A30; obtain ⟨y122, hy122⟩ : ∃ y_ : List Int, y_ = (([(t120) % 256, (t120 / 256) % 256] : List Int)) := ⟨_, rfl⟩
 replace H : (some (strOfNums y122)) = some r := by first | (rw [hy122]; with_reducible exact H) | (have H2_ := (Option.bind_some _ _).symm.trans H; rw [hy122]; with_reducible exact H2_) | (have H2_ := (Option.bind_some _ _).symm.trans H; with_reducible exact H2_) | with_reducible exact H | (rw [hy122]; exact H) | exact H
 have Ny122 := sA hy122; clear hy122; obtain rfl := Option.some.inj H
 go_enter Tryd.func37, Tryd.ntmps37
 go_wp2_with (first | ((with_reducible refine gate_callee (f := 38) rfl ?_); refine goesK (some 8) Tryd.func38 #[.string (⟨#[99, 114, 99, 49, 54, 109, 111, 100, 98, 117, 115]⟩ : ByteArray)] ?_; (with_reducible refine (check_Named.calls (⟨#[99, 114, 99, 49, 54, 109, 111, 100, 98, 117, 115]⟩ : ByteArray) t113 t114 t115 t116 t117 t118 _ ?side1 A2.out).mono ?_); (case side1 => refine TabOk.below hT_ ?_; repeat (first | (with_reducible first | exact HB.out | apply below_alloc | apply pw_below_drewN | apply below_drew1) | exact HB.out)); rintro e w4 ⟨rfl, hb⟩; refine ⟨_, rfl, ?_⟩; replace HB := bst HB hb; (try clear hb); (try clear hk)) | ((with_reducible refine gate_dst (N := 3) rfl ?_); refine boxK 3 #[.int .i64 0, .int .i64 0, .int .i64 0, .int .i64 0, .bool false] 67 ?_; intro gb119 hg w5 hbox hb; have BK119 := sA hbox; have GW119 := bsz HB hg; have GE119 := bsz HB hg; replace HB := bst HB hb; clear hb hbox hg; obtain ⟨hcz6_0,hcz6_1,hcz6_2,hcz6_3,hcz6_4,hfz6_0,hfz6_1,hfz6_2,hfz6_3,hfz6_4⟩ := cQ5 BK119) | ((with_reducible refine gate_callee (f := 39) rfl ?_); refine goesK (some 14) Tryd.func39 #[.agg #[.int .i64 t113, .int .i64 t114, .int .i64 t115, .int .i64 t116, .bool t117], .string a0] ?_; (with_reducible refine (check_Bytes.calls k t113 t114 t115 t116 t117 a0 t120 t121 _ A3.out).mono ?_); rintro e w7 ⟨rfl, hb⟩; refine ⟨_, rfl, ?_⟩; replace BK119 := sA (blk_below (g := gb119) (o := .cells #[.int .i64 t113, .int .i64 t114, .int .i64 t115, .int .i64 t116, .bool t117] 67 (0, 0)) (by (with_reducible repeat (first | refine blk_drewN ?_ _ | refine blk_drew ?_ | refine blk_alloc ?_ _)); refine blk_put (cs := #[.int .i64 t113, .int .i64 t114, .int .i64 t115, .int .i64 t116, .bool false]) ?_ 4 _ rfl; (with_reducible repeat (first | refine blk_drewN ?_ _ | refine blk_drew ?_ | refine blk_alloc ?_ _)); refine blk_put (cs := #[.int .i64 t113, .int .i64 t114, .int .i64 t115, .int .i64 0, .bool false]) ?_ 3 _ rfl; (with_reducible repeat (first | refine blk_drewN ?_ _ | refine blk_drew ?_ | refine blk_alloc ?_ _)); refine blk_put (cs := #[.int .i64 t113, .int .i64 t114, .int .i64 0, .int .i64 0, .bool false]) ?_ 2 _ rfl; (with_reducible repeat (first | refine blk_drewN ?_ _ | refine blk_drew ?_ | refine blk_alloc ?_ _)); refine blk_put (cs := #[.int .i64 t113, .int .i64 0, .int .i64 0, .int .i64 0, .bool false]) ?_ 1 _ rfl; (with_reducible repeat (first | refine blk_drewN ?_ _ | refine blk_drew ?_ | refine blk_alloc ?_ _)); refine blk_put (cs := #[.int .i64 0, .int .i64 0, .int .i64 0, .int .i64 0, .bool false]) ?_ 0 _ rfl; (with_reducible repeat (first | refine blk_drewN ?_ _ | refine blk_drew ?_ | refine blk_alloc ?_ _)); exact BK119.out) hb); replace HB := bst HB hb; (try clear hb); (try clear hk)) | ((with_reducible refine gate_dst (N := 22) rfl ?_); refine Kd.R_lit (Kd.int .u8) _ 5 ?hg (N := 22) ?hd (xs := ([(t120) % 256, (t120 / 256) % 256] : List Int)) (inner := [.int .u8 ((t120) % 256), .int .u8 ((t120 / 256) % 256)]) (ok := fun _ => True) (okp := fun _ => True) ?hr ?hp (fun _ hk => hk) trivial (Below.refl _ _) (Nat.le_refl _) (by simp) ?_; (case hd => rfl); (case hg => rfl); (case hr => first | (go_simp; done) | (go_simp; rfl)); (case hp => exact (Reps.one (show Kd.M (Kd.int .u8) _ _ _ ((t120) % 256) [.int .u8 ((t120) % 256)] from rfl) (Reps.one (show Kd.M (Kd.int .u8) _ _ _ ((t120 / 256) % 256) [.int .u8 ((t120 / 256) % 256)] from rfl) (Reps.none _ _)))); intro v123 w8 ho9 hb hg_ hnew_; clear hg_ hnew_; (first | rw [← Ny122.out] at ho9 | (simp only [Int.reduceToNat] at ho9; rw [← Ny122.out] at ho9)); have HO124 := sA (Kd.R_lower ho9 (below_size (hbw HB.out))); replace BK119 := sA (blkb BK119.out hb); replace HB := bst HB hb; clear hb ho9; have hcv10 := own_string (P := Tryd.prog) Tryd.underlying49 Tryd.underlying5 Tryd.underlying9 (Kd.own_of_R HO124.out)))
 go_ret
 exact ⟨eW_, hbw HB.out⟩

end Go.Proofs.YtmalhgidhieamaaDoor.PModbusDecodes
