-- Written by a program of this session (wip/tools/pr.py), which calls the kit's print with changes of its own.
import Derived.Test.YteeejopgaegaoaaDoorPCheckPartsx0
import Derived.Test.YteeejopgaegaoaaDoorPCheckPartsx2
import Derived.Test.YteeejopgaegaoaaDoorPCheckPartsx3
import Derived.Test.YteeejopgaegaoaaDoorPCheckPartsx4
import Derived.Test.YteeejopgaegaoaaDoorPCheckPartsx5
namespace Go.Proofs.YteeejopgaegaoaaDoor.PCheckParts
open Go.RowKit Go.Proofs.YteeejopgaegaoaaDoorW.PrintWords Go.Proofs.YteeejopgaegaoaaDoorW.PrintLast Go.Proofs.YteeejopgaegaoaaDoorW.PrintMore
attribute [local go_sem] max2_int min2_int max_two min_two max_three min_three max_four min_four   -- for this text's walks alone
set_option linter.unusedVariables false
set_option linter.unusedSimpArgs false

/-! ### signalbenchlaw04_CheckParts: function 10 -/
mutual
def signalbenchlaw04_CheckParts.j0 : Nat → ByteArray → ByteArray → Bool → Int → Int → Int → Int → Bool → Option (Bool)
 | 0, _, _, _, _, _, _, _, _ => none
 | k + 1, x1, x2, x21, x153000, x153001, x153002, x153003, x153004 => if x21 = true then ((signalbenchlaw04_awake.f k).bind fun t153 => (some t153)) else (signalbenchlaw04_CheckParts.j1 k x1 x2 x153000 x153001 x153002 x153003 x153004)
def signalbenchlaw04_CheckParts.j1 : Nat → ByteArray → ByteArray → Int → Int → Int → Int → Bool → Option (Bool)
 | 0, _, _, _, _, _, _, _ => none
 | k + 1, x1, x2, x153000, x153001, x153002, x153003, x153004 => (check_Bytes.f k x153000 x153001 x153002 x153003 x153004 x1).bind fun bt154 => ((bits_FromBytes.f k x1 (!x153004)).bind fun t156 => ((check_Bits.f k x153000 x153001 x153002 x153003 x153004 t156).bind fun bt157 => (if bt154.1 = bt157.1 then (signalbenchlaw04_CheckParts.j2 k x1 x2 (bt154.2 != bt157.2)) else (signalbenchlaw04_CheckParts.j2 k x1 x2 true))))
def signalbenchlaw04_CheckParts.j2 : Nat → ByteArray → ByteArray → Bool → Option (Bool)
 | 0, _, _, _ => none
 | k + 1, x1, x2, x46 => if x46 = true then (some false) else (signalbenchlaw04_CheckParts.j3 k x1 x2)
def signalbenchlaw04_CheckParts.j3 : Nat → ByteArray → ByteArray → Option (Bool)
 | 0, _, _ => none
 | k + 1, x1, x2 => (check_Carry.f k x1).bind fun t159 => ((check_Carry.f k x2).bind fun t160 => (if (wrap64 ((wrap64 (255 - t159)) + (wrap64 (255 - t160)))) > 255 then (signalbenchlaw04_CheckParts.j4 k x1 x2 (wrap64 ((wrap64 ((wrap64 (255 - t159)) + (wrap64 (255 - t160)))) - 255))) else (signalbenchlaw04_CheckParts.j4 k x1 x2 (wrap64 ((wrap64 (255 - t159)) + (wrap64 (255 - t160)))))))
def signalbenchlaw04_CheckParts.j4 : Nat → ByteArray → ByteArray → Int → Option (Bool)
 | 0, _, _, _ => none
 | k + 1, x1, x2, x13 => if x1.size + x2.size ≤ 9223372036854775807 then ((check_Carry.f k (x1 ++ x2)).bind fun t161 => (if t161 = (wrap64 (255 - x13)) then ((check_Sum.f k (x1 ++ x2)).bind fun t162 => ((check_Sum.f k x1).bind fun t163 => ((check_Sum.f k x2).bind fun t164 => (if t162 = (Int.tmod (wrap64 (t163 + t164)) 256) then ((check_Xor.f k (x1 ++ x2)).bind fun t165 => ((check_Xor.f k x1).bind fun t166 => ((check_Xor.f k x2).bind fun t167 => (if t165 = (Go.bits .xor .i64 t166 t167) then ((signalbenchlaw04_awake.f k).bind fun t168 => (some t168)) else (some false))))) else (some false))))) else (some false))) else (none)
end
def signalbenchlaw04_CheckParts.f (k : Nat) (a0_0 : Int) (a0_1 : Int) (a0_2 : Int) (a0_3 : Int) (a0_4 : Bool) (a1 : ByteArray) (a2 : ByteArray) : Option (Bool) := if (a1.size : Int) > 100 then (signalbenchlaw04_CheckParts.j0 k a1 a2 true a0_0 a0_1 a0_2 a0_3 a0_4) else (signalbenchlaw04_CheckParts.j0 k a1 a2 (decide ((a2.size : Int) > 100)) a0_0 a0_1 a0_2 a0_3 a0_4)
theorem signalbenchlaw04_CheckParts.mono_l : ∀ k, (∀ y0 y1 y2 y3 y4 y5 y6 y7, LeO (signalbenchlaw04_CheckParts.j0 k y0 y1 y2 y3 y4 y5 y6 y7) (signalbenchlaw04_CheckParts.j0 (k + 1) y0 y1 y2 y3 y4 y5 y6 y7)) ∧ (∀ y0 y1 y2 y3 y4 y5 y6, LeO (signalbenchlaw04_CheckParts.j1 k y0 y1 y2 y3 y4 y5 y6) (signalbenchlaw04_CheckParts.j1 (k + 1) y0 y1 y2 y3 y4 y5 y6)) ∧ (∀ y0 y1 y2, LeO (signalbenchlaw04_CheckParts.j2 k y0 y1 y2) (signalbenchlaw04_CheckParts.j2 (k + 1) y0 y1 y2)) ∧ (∀ y0 y1, LeO (signalbenchlaw04_CheckParts.j3 k y0 y1) (signalbenchlaw04_CheckParts.j3 (k + 1) y0 y1)) ∧ (∀ y0 y1 y2, LeO (signalbenchlaw04_CheckParts.j4 k y0 y1 y2) (signalbenchlaw04_CheckParts.j4 (k + 1) y0 y1 y2))
 | 0 => ⟨fun _ _ _ _ _ _ _ _ r h => by simp [signalbenchlaw04_CheckParts.j0] at h, fun _ _ _ _ _ _ _ r h => by simp [signalbenchlaw04_CheckParts.j1] at h, fun _ _ _ r h => by simp [signalbenchlaw04_CheckParts.j2] at h, fun _ _ r h => by simp [signalbenchlaw04_CheckParts.j3] at h, fun _ _ _ r h => by simp [signalbenchlaw04_CheckParts.j4] at h⟩
 | k + 1 => by
  obtain ⟨ih0, ih1, ih2, ih3, ih4⟩ := signalbenchlaw04_CheckParts.mono_l k
  refine ⟨?_, ?_, ?_, ?_, ?_⟩
  ·intro y0 y1 y2 y3 y4 y5 y6 y7
   unfold signalbenchlaw04_CheckParts.j0
   repeat' first
   | (with_reducible exact ih0 _ _ _ _ _ _ _ _)
   | (with_reducible exact ih1 _ _ _ _ _ _ _)
   | (with_reducible exact ih2 _ _ _)
   | (with_reducible exact ih3 _ _)
   | (with_reducible exact ih4 _ _ _)
   | (with_reducible exact bits_FromBytes.mono _ _ _)
   | (with_reducible exact check_Bits.mono _ _ _ _ _ _ _)
   | (with_reducible exact check_Bytes.mono _ _ _ _ _ _ _)
   | (with_reducible exact check_Carry.mono _ _)
   | (with_reducible exact check_Sum.mono _ _)
   | (with_reducible exact check_Xor.mono _ _)
   | (with_reducible exact signalbenchlaw04_awake.mono _)
   | (with_reducible exact LeO.refl _)
   | (with_reducible exact LeO.none _)
   | (with_reducible refine LeO.ite ?_ ?_)
   | (with_reducible refine LeO.bind ?_ (fun _ => ?_))
   | exact ih0 _ _ _ _ _ _ _ _
   | exact ih1 _ _ _ _ _ _ _
   | exact ih2 _ _ _
   | exact ih3 _ _
   | exact ih4 _ _ _
   | exact bits_FromBytes.mono _ _ _
   | exact check_Bits.mono _ _ _ _ _ _ _
   | exact check_Bytes.mono _ _ _ _ _ _ _
   | exact check_Carry.mono _ _
   | exact check_Sum.mono _ _
   | exact check_Xor.mono _ _
   | exact signalbenchlaw04_awake.mono _
   | exact LeO.none _
   | refine LeO.ite ?_ ?_
   | refine LeO.bind ?_ (fun _ => ?_)
  ·intro y0 y1 y2 y3 y4 y5 y6
   unfold signalbenchlaw04_CheckParts.j1
   repeat' first
   | (with_reducible exact ih0 _ _ _ _ _ _ _ _)
   | (with_reducible exact ih1 _ _ _ _ _ _ _)
   | (with_reducible exact ih2 _ _ _)
   | (with_reducible exact ih3 _ _)
   | (with_reducible exact ih4 _ _ _)
   | (with_reducible exact bits_FromBytes.mono _ _ _)
   | (with_reducible exact check_Bits.mono _ _ _ _ _ _ _)
   | (with_reducible exact check_Bytes.mono _ _ _ _ _ _ _)
   | (with_reducible exact check_Carry.mono _ _)
   | (with_reducible exact check_Sum.mono _ _)
   | (with_reducible exact check_Xor.mono _ _)
   | (with_reducible exact signalbenchlaw04_awake.mono _)
   | (with_reducible exact LeO.refl _)
   | (with_reducible exact LeO.none _)
   | (with_reducible refine LeO.ite ?_ ?_)
   | (with_reducible refine LeO.bind ?_ (fun _ => ?_))
   | exact ih0 _ _ _ _ _ _ _ _
   | exact ih1 _ _ _ _ _ _ _
   | exact ih2 _ _ _
   | exact ih3 _ _
   | exact ih4 _ _ _
   | exact bits_FromBytes.mono _ _ _
   | exact check_Bits.mono _ _ _ _ _ _ _
   | exact check_Bytes.mono _ _ _ _ _ _ _
   | exact check_Carry.mono _ _
   | exact check_Sum.mono _ _
   | exact check_Xor.mono _ _
   | exact signalbenchlaw04_awake.mono _
   | exact LeO.none _
   | refine LeO.ite ?_ ?_
   | refine LeO.bind ?_ (fun _ => ?_)
  ·intro y0 y1 y2
   unfold signalbenchlaw04_CheckParts.j2
   repeat' first
   | (with_reducible exact ih0 _ _ _ _ _ _ _ _)
   | (with_reducible exact ih1 _ _ _ _ _ _ _)
   | (with_reducible exact ih2 _ _ _)
   | (with_reducible exact ih3 _ _)
   | (with_reducible exact ih4 _ _ _)
   | (with_reducible exact bits_FromBytes.mono _ _ _)
   | (with_reducible exact check_Bits.mono _ _ _ _ _ _ _)
   | (with_reducible exact check_Bytes.mono _ _ _ _ _ _ _)
   | (with_reducible exact check_Carry.mono _ _)
   | (with_reducible exact check_Sum.mono _ _)
   | (with_reducible exact check_Xor.mono _ _)
   | (with_reducible exact signalbenchlaw04_awake.mono _)
   | (with_reducible exact LeO.refl _)
   | (with_reducible exact LeO.none _)
   | (with_reducible refine LeO.ite ?_ ?_)
   | (with_reducible refine LeO.bind ?_ (fun _ => ?_))
   | exact ih0 _ _ _ _ _ _ _ _
   | exact ih1 _ _ _ _ _ _ _
   | exact ih2 _ _ _
   | exact ih3 _ _
   | exact ih4 _ _ _
   | exact bits_FromBytes.mono _ _ _
   | exact check_Bits.mono _ _ _ _ _ _ _
   | exact check_Bytes.mono _ _ _ _ _ _ _
   | exact check_Carry.mono _ _
   | exact check_Sum.mono _ _
   | exact check_Xor.mono _ _
   | exact signalbenchlaw04_awake.mono _
   | exact LeO.none _
   | refine LeO.ite ?_ ?_
   | refine LeO.bind ?_ (fun _ => ?_)
  ·intro y0 y1
   unfold signalbenchlaw04_CheckParts.j3
   repeat' first
   | (with_reducible exact ih0 _ _ _ _ _ _ _ _)
   | (with_reducible exact ih1 _ _ _ _ _ _ _)
   | (with_reducible exact ih2 _ _ _)
   | (with_reducible exact ih3 _ _)
   | (with_reducible exact ih4 _ _ _)
   | (with_reducible exact bits_FromBytes.mono _ _ _)
   | (with_reducible exact check_Bits.mono _ _ _ _ _ _ _)
   | (with_reducible exact check_Bytes.mono _ _ _ _ _ _ _)
   | (with_reducible exact check_Carry.mono _ _)
   | (with_reducible exact check_Sum.mono _ _)
   | (with_reducible exact check_Xor.mono _ _)
   | (with_reducible exact signalbenchlaw04_awake.mono _)
   | (with_reducible exact LeO.refl _)
   | (with_reducible exact LeO.none _)
   | (with_reducible refine LeO.ite ?_ ?_)
   | (with_reducible refine LeO.bind ?_ (fun _ => ?_))
   | exact ih0 _ _ _ _ _ _ _ _
   | exact ih1 _ _ _ _ _ _ _
   | exact ih2 _ _ _
   | exact ih3 _ _
   | exact ih4 _ _ _
   | exact bits_FromBytes.mono _ _ _
   | exact check_Bits.mono _ _ _ _ _ _ _
   | exact check_Bytes.mono _ _ _ _ _ _ _
   | exact check_Carry.mono _ _
   | exact check_Sum.mono _ _
   | exact check_Xor.mono _ _
   | exact signalbenchlaw04_awake.mono _
   | exact LeO.none _
   | refine LeO.ite ?_ ?_
   | refine LeO.bind ?_ (fun _ => ?_)
  ·intro y0 y1 y2
   unfold signalbenchlaw04_CheckParts.j4
   repeat' first
   | (with_reducible exact ih0 _ _ _ _ _ _ _ _)
   | (with_reducible exact ih1 _ _ _ _ _ _ _)
   | (with_reducible exact ih2 _ _ _)
   | (with_reducible exact ih3 _ _)
   | (with_reducible exact ih4 _ _ _)
   | (with_reducible exact bits_FromBytes.mono _ _ _)
   | (with_reducible exact check_Bits.mono _ _ _ _ _ _ _)
   | (with_reducible exact check_Bytes.mono _ _ _ _ _ _ _)
   | (with_reducible exact check_Carry.mono _ _)
   | (with_reducible exact check_Sum.mono _ _)
   | (with_reducible exact check_Xor.mono _ _)
   | (with_reducible exact signalbenchlaw04_awake.mono _)
   | (with_reducible exact LeO.refl _)
   | (with_reducible exact LeO.none _)
   | (with_reducible refine LeO.ite ?_ ?_)
   | (with_reducible refine LeO.bind ?_ (fun _ => ?_))
   | exact ih0 _ _ _ _ _ _ _ _
   | exact ih1 _ _ _ _ _ _ _
   | exact ih2 _ _ _
   | exact ih3 _ _
   | exact ih4 _ _ _
   | exact bits_FromBytes.mono _ _ _
   | exact check_Bits.mono _ _ _ _ _ _ _
   | exact check_Bytes.mono _ _ _ _ _ _ _
   | exact check_Carry.mono _ _
   | exact check_Sum.mono _ _
   | exact check_Xor.mono _ _
   | exact signalbenchlaw04_awake.mono _
   | exact LeO.none _
   | refine LeO.ite ?_ ?_
   | refine LeO.bind ?_ (fun _ => ?_)
theorem signalbenchlaw04_CheckParts.mono : ∀ a0 a1 a2 a3 a4 a5 a6 k, LeO (signalbenchlaw04_CheckParts.f k a0 a1 a2 a3 a4 a5 a6) (signalbenchlaw04_CheckParts.f (k + 1) a0 a1 a2 a3 a4 a5 a6) := by
 intro a0 a1 a2 a3 a4 a5 a6 k
 obtain ⟨ih0, ih1, ih2, ih3, ih4⟩ := signalbenchlaw04_CheckParts.mono_l k
 unfold signalbenchlaw04_CheckParts.f
 repeat' first
   | (with_reducible exact ih0 _ _ _ _ _ _ _ _)
   | (with_reducible exact ih1 _ _ _ _ _ _ _)
   | (with_reducible exact ih2 _ _ _)
   | (with_reducible exact ih3 _ _)
   | (with_reducible exact ih4 _ _ _)
   | (with_reducible exact bits_FromBytes.mono _ _ _)
   | (with_reducible exact check_Bits.mono _ _ _ _ _ _ _)
   | (with_reducible exact check_Bytes.mono _ _ _ _ _ _ _)
   | (with_reducible exact check_Carry.mono _ _)
   | (with_reducible exact check_Sum.mono _ _)
   | (with_reducible exact check_Xor.mono _ _)
   | (with_reducible exact signalbenchlaw04_awake.mono _)
   | (with_reducible exact LeO.refl _)
   | (with_reducible exact LeO.none _)
   | (with_reducible refine LeO.ite ?_ ?_)
   | (with_reducible refine LeO.bind ?_ (fun _ => ?_))
   | exact ih0 _ _ _ _ _ _ _ _
   | exact ih1 _ _ _ _ _ _ _
   | exact ih2 _ _ _
   | exact ih3 _ _
   | exact ih4 _ _ _
   | exact bits_FromBytes.mono _ _ _
   | exact check_Bits.mono _ _ _ _ _ _ _
   | exact check_Bytes.mono _ _ _ _ _ _ _
   | exact check_Carry.mono _ _
   | exact check_Sum.mono _ _
   | exact check_Xor.mono _ _
   | exact signalbenchlaw04_awake.mono _
   | exact LeO.none _
   | refine LeO.ite ?_ ?_
   | refine LeO.bind ?_ (fun _ => ?_)
def signalbenchlaw04_CheckParts.T4 : Bool × List (List Nat × List Nat) := (true, [([], []), ([], []), ([], []), ([2], [2]), ([3], [3]), ([1, 4], [1, 4]), ([0, 5, 5], [0, 5]), ([6], [6]), ([7], [7]), ([7], [7]), ([8, 6, 0, 1, 2, 3, 4, 5, 6, 7, 8], [8]), ([9, 10, 0, 1, 2, 3, 4, 5, 6, 7, 8, 9, 10], [9])])
def signalbenchlaw04_CheckParts.B4 : List Nat := [0, 0, 0, 4, 12, 30, 63, 127, 255, 255, 511, 2047]
theorem signalbenchlaw04_CheckParts.tab4 : rtab .any (opsOf Tryd.f10 4) = signalbenchlaw04_CheckParts.T4 := by kernel_rfl
theorem signalbenchlaw04_CheckParts.bits4 : waitsOk signalbenchlaw04_CheckParts.T4.2 signalbenchlaw04_CheckParts.B4 = true := by kernel_rfl
set_option maxHeartbeats 8000000 in
set_option maxRecDepth 100000 in
theorem signalbenchlaw04_CheckParts.calls (k : Nat) (a0_0 : Int) (a0_1 : Int) (a0_2 : Int) (a0_3 : Int) (a0_4 : Bool) (a1 : ByteArray) (a2 : ByteArray) (r : Bool) (w : World) (hT_ : TabOk w) (h : signalbenchlaw04_CheckParts.f k a0_0 a0_1 a0_2 a0_3 a0_4 a1 a2 = some r) :
  Calls Tryd.prog 10 #[.agg #[.int .i64 a0_0, .int .i64 a0_1, .int .i64 a0_2, .int .i64 a0_3, .bool a0_4], .string a1, .string a2] w fun e w' => e = .returned (.bool r) ∧ Below w.heap.size w w' := by
 have hu23 := Tryd.underlying23
 have HB := Aside0.mk (Below.refl w.heap.size w)
 have H : (if (a1.size : Int) > 100 then (signalbenchlaw04_CheckParts.j0 k a1 a2 true a0_0 a0_1 a0_2 a0_3 a0_4) else (signalbenchlaw04_CheckParts.j0 k a1 a2 (decide ((a2.size : Int) > 100)) a0_0 a0_1 a0_2 a0_3 a0_4)) = some r := h
 clear h
 have HC4 := Aside0.mk H
 clear H
 go_enter Tryd.func10, Tryd.ntmps10
 go_upto_region 1 with (first | ((with_reducible refine gate_dst (N := 3) rfl ?_); (try (refine gate_guard (by first | rfl | (go_simp; done)) ?_; dsimp only)); refine box_event ?hg (N := 3) ?hd (cs := #[.int .i64 a0_0, .int .i64 a0_1, .int .i64 a0_2, .int .i64 a0_3, .bool a0_4]) (t := 23) ?hr ?_; (case hd => rfl); (case hg => rfl); (case hr => first | (go_simp; done) | (go_simp; rfl)); intro gb152 hg w5 hbox hb; have n0_ := Aside0.mk (below_step (hbw HB.out) hb); have n1_ := Aside0.mk (hbox); have n2_ := Aside0.mk ((by rw [hg]; exact (below_size (hbw HB.out)) : w.heap.size ≤ gb152)); have n3_ := Aside0.mk ((by rw [hg]; exact (below_size (hbw HB.out)) : w.heap.size ≤ gb152)); clear HB; have HB := n0_; have BK152 := n1_; have GW152 := n2_; have GE152 := n3_; clear n0_ n1_ n2_ n3_; clear hb hbox hg))
 (try simp only [Act.put, List.setIfInBounds_toArray, List.set_cons_zero, List.set_cons_succ])
 go_cut [21] (fun v21 wc => ∃ (kq : Nat) (x21_3 : Bool), v21 = .bool x21_3 ∧ Aside0 (signalbenchlaw04_CheckParts.j0 kq a1 a2 x21_3 a0_0 a0_1 a0_2 a0_3 a0_4 = some r) ∧ Aside0 (kq ≤ k) ∧ Aside0 (wc.heap[gb152]? = some (.cells #[.int .i64 a0_0, .int .i64 a0_1, .int .i64 a0_2, .int .i64 a0_3, .bool a0_4] 23 (0, 0))) ∧ Aside0 (Below w.heap.size w wc))
 case first =>
  have H := HC4.out
  clear HC4
  by_cases c6 : (a1.size : Int) > 100
  ·rw [if_pos c6] at H
   have c6b0 : decide (100 < (a1.size : Int)) = true := decide_eq_true c6
   have c6b1 : decide (100 < a1.size) = true := decide_eq_true (by omega)
   clear c6
   (first | rw [c6b0] | (simp only [i64_w, i32_w]; rw [c6b0]) | skip)
   have H' := Aside0.mk H
   clear H
   go_wp2
   go_meet
   case rel => exact ⟨_, (true), (by first | rfl | (simp; done) | (simp [*]; done)), H', ⟨by first | omega | exact Nat.le_refl _⟩, ⟨by (with_reducible repeat (first | refine blk_drewN ?_ _ | refine blk_drew ?_ | refine blk_alloc ?_ _)); exact BK152.out⟩, ⟨by repeat (first | (with_reducible first | exact HB.out | apply below_alloc | apply pw_below_drewN | apply below_drew1 | refine below_set ?_ GE152.out) | exact HB.out)⟩⟩
  ·rw [if_neg c6] at H
   have c6b0 : decide (100 < (a1.size : Int)) = false := decide_eq_false c6
   have c6b1 : decide (100 < a1.size) = false := decide_eq_false (by omega)
   clear c6
   (first | rw [c6b0] | (simp only [i64_w, i32_w]; rw [c6b0]) | skip)
   have H' := Aside0.mk H
   clear H
   go_wp2
   go_meet
   case rel => exact ⟨_, (decide ((a2.size : Int) > 100)), (by first | rfl | (simp; done) | (simp [*]; done)), H', ⟨by first | omega | exact Nat.le_refl _⟩, ⟨by (with_reducible repeat (first | refine blk_drewN ?_ _ | refine blk_drew ?_ | refine blk_alloc ?_ _)); exact BK152.out⟩, ⟨by repeat (first | (with_reducible first | exact HB.out | apply below_alloc | apply pw_below_drewN | apply below_drew1 | refine below_set ?_ GE152.out) | exact HB.out)⟩⟩
 case rest =>
  clear HC4
  try clear c1
  try clear p2
  try clear c6
  try clear c6b0
  try clear c6b1
  obtain ⟨kq, x21_3, rfl, HA, HJ3, BK152, HB⟩ := hcut
  cases kq with
  | zero => exact absurd HA.out (by simp [signalbenchlaw04_CheckParts.j0])
  | succ kj3 =>
   have H := HA.out
   clear HA
   simp only [signalbenchlaw04_CheckParts.j0] at H
   have HC7 := Aside0.mk H
   clear H
   go_upto_if 21 with (fail)
   go_cut [] (fun wc => ∃ (kq : Nat), Aside0 (signalbenchlaw04_CheckParts.j1 kq a1 a2 a0_0 a0_1 a0_2 a0_3 a0_4 = some r) ∧ Aside0 (kq ≤ kj3) ∧ Aside0 (wc.heap[gb152]? = some (.cells #[.int .i64 a0_0, .int .i64 a0_1, .int .i64 a0_2, .int .i64 a0_3, .bool a0_4] 23 (0, 0))) ∧ Aside0 (Below w.heap.size w wc))
   case first =>
    have H := HC7.out
    clear HC7
    by_cases c8 : x21_3 = true
    ·subst c8
     have H1 : ((signalbenchlaw04_awake.f kj3).bind fun t153 => (some t153)) = some r := by rw [if_pos rfl] at H; exact H
     clear H
     have H := H1
     clear H1
     replace H := Option.bind_eq_some_iff.mp H
     obtain ⟨t153, A90, H⟩ := H
     replace H : (some t153) = some r := H
     have A9 := Aside0.mk A90
     clear A90
     obtain rfl := Option.some.inj H
     go_wp2_with (first | ((with_reducible refine gate_callee (f := 11) rfl ?_); refine goesL_ (some 22) rfl rfl Tryd.func11 (by kernel_rfl) rfl #[] rfl (by (try simp only [List.map_toArray, List.map_cons, List.map_nil]); first | done | rfl | (simp only [List.length_drop, List.length_take]; rfl)) ?_; (with_reducible refine (signalbenchlaw04_awake.calls kj3  t153 _ ?side1 A9.out).mono ?_); (case side1 => refine TabOk.below hT_ ?_; repeat (first | (with_reducible first | exact HB.out | apply below_alloc | apply pw_below_drewN | apply below_drew1 | refine below_set ?_ GE152.out) | exact HB.out)); rintro e w10 ⟨rfl, hb⟩; refine ⟨_, rfl, ?_⟩; have n0_ := Aside0.mk (blkb BK152.out hb); have n1_ := Aside0.mk (below_step (hbw HB.out) hb); clear BK152; clear HB; have BK152 := n0_; have HB := n1_; clear n0_ n1_; (try clear hb); (try clear hb2); (try clear hk); (try clear hi)))
     go_ret
     exact ⟨by first | rfl | (simp [errW_none, errW_some] <;> rfl) | (simp [*, errW_none, errW_some] <;> rfl), by repeat (first | (with_reducible first | exact HB.out | apply below_alloc | apply pw_below_drewN | apply below_drew1 | refine below_set ?_ GE152.out) | exact HB.out)⟩
    ·replace c8 := Bool.eq_false_iff.mpr c8
     subst c8
     have H1 : (signalbenchlaw04_CheckParts.j1 kj3 a1 a2 a0_0 a0_1 a0_2 a0_3 a0_4) = some r := by rw [if_neg (show ¬ (false = true) by decide)] at H; exact H
     clear H
     have H := H1
     clear H1
     have H' := Aside0.mk H
     clear H
     go_wp2
     go_meet
     case rel => exact ⟨_, H', ⟨by have := HJ3.out; first | omega | exact Nat.le_refl _⟩, ⟨by (with_reducible repeat (first | refine blk_drewN ?_ _ | refine blk_drew ?_ | refine blk_alloc ?_ _)); exact BK152.out⟩, ⟨by repeat (first | (with_reducible first | exact HB.out | apply below_alloc | apply pw_below_drewN | apply below_drew1 | refine below_set ?_ GE152.out) | exact HB.out)⟩⟩
   case rest =>
    clear HC7
    try clear c1
    try clear p2
    try clear c6
    try clear c6b0
    try clear c6b1
    try clear c8
    try clear c10
    try clear p2
    obtain ⟨kq, HA, HJ6, BK152, HB⟩ := hcut
    cases kq with
    | zero => exact absurd HA.out (by simp [signalbenchlaw04_CheckParts.j1])
    | succ kj6 =>
     have H := HA.out
     clear HA
     simp only [signalbenchlaw04_CheckParts.j1] at H
     replace H := Option.bind_eq_some_iff.mp H
     obtain ⟨⟨t154, t155⟩, A110, H⟩ := H
     replace H : ((bits_FromBytes.f kj6 a1 (!a0_4)).bind fun t156 => ((check_Bits.f kj6 a0_0 a0_1 a0_2 a0_3 a0_4 t156).bind fun bt157 => (if t154 = bt157.1 then (signalbenchlaw04_CheckParts.j2 kj6 a1 a2 (t155 != bt157.2)) else (signalbenchlaw04_CheckParts.j2 kj6 a1 a2 true)))) = some r := H
     have A11 := Aside0.mk A110
     clear A110
     replace H := Option.bind_eq_some_iff.mp H
     obtain ⟨t156, A120, H⟩ := H
     replace H : ((check_Bits.f kj6 a0_0 a0_1 a0_2 a0_3 a0_4 t156).bind fun bt157 => (if t154 = bt157.1 then (signalbenchlaw04_CheckParts.j2 kj6 a1 a2 (t155 != bt157.2)) else (signalbenchlaw04_CheckParts.j2 kj6 a1 a2 true))) = some r := H
     have A12 := Aside0.mk A120
     clear A120
     replace H := Option.bind_eq_some_iff.mp H
     obtain ⟨⟨t157, t158⟩, A130, H⟩ := H
     replace H : (if t154 = t157 then (signalbenchlaw04_CheckParts.j2 kj6 a1 a2 (t155 != t158)) else (signalbenchlaw04_CheckParts.j2 kj6 a1 a2 true)) = some r := H
     have A13 := Aside0.mk A130
     clear A130
     have HC14 := Aside0.mk H
     clear H
     have hcz15_0 : wc.cell? ⟨gb152, 0, none⟩ = some (.int .i64 a0_0) := (blk_cell BK152.out 0).trans rfl
     have hcz15_1 : wc.cell? ⟨gb152, 1, none⟩ = some (.int .i64 a0_1) := (blk_cell BK152.out 1).trans rfl
     have hcz15_2 : wc.cell? ⟨gb152, 2, none⟩ = some (.int .i64 a0_2) := (blk_cell BK152.out 2).trans rfl
     have hcz15_3 : wc.cell? ⟨gb152, 3, none⟩ = some (.int .i64 a0_3) := (blk_cell BK152.out 3).trans rfl
     have hcz15_4 : wc.cell? ⟨gb152, 4, none⟩ = some (.bool a0_4) := (blk_cell BK152.out 4).trans rfl
     have hfz15_0 := blk_frozen BK152.out 0
     have hfz15_1 := blk_frozen BK152.out 1
     have hfz15_2 := blk_frozen BK152.out 2
     have hfz15_3 := blk_frozen BK152.out 3
     have hfz15_4 := blk_frozen BK152.out 4
     try go_wp2_with (first | ((with_reducible refine gate_callee (f := 14) rfl ?_); refine goesL_ (some 26) rfl rfl Tryd.func14 (by kernel_rfl) rfl #[.agg #[.int .i64 a0_0, .int .i64 a0_1, .int .i64 a0_2, .int .i64 a0_3, .bool a0_4], .string a1] rfl (by (try simp only [List.map_toArray, List.map_cons, List.map_nil]); first | done | rfl | (simp only [List.length_drop, List.length_take]; rfl)) ?_; (with_reducible refine (check_Bytes.calls kj6 a0_0 a0_1 a0_2 a0_3 a0_4 a1 t154 t155 _ A11.out).mono ?_); rintro e w16 ⟨rfl, hb⟩; refine ⟨_, rfl, ?_⟩; have n0_ := Aside0.mk (blkb BK152.out hb); have n1_ := Aside0.mk (below_step (hbw HB.out) hb); clear BK152; clear HB; have BK152 := n0_; have HB := n1_; clear n0_ n1_; (try clear hb); (try clear hb2); (try clear hk); (try clear hi)))
     have n0_ := Aside0.mk (blk_drew BK152.out)
     have n1_ := Aside0.mk (below_drew1 HB.out)
     clear BK152
     clear HB
     have BK152 := n0_
     have HB := n1_
     clear n0_ n1_
     refine start_ (n := 12) (S := fun w' => w'.cell? ⟨gb152, 0, none⟩ = some (.int .i64 a0_0) ∧ w'.cell? ⟨gb152, 1, none⟩ = some (.int .i64 a0_1) ∧ w'.cell? ⟨gb152, 2, none⟩ = some (.int .i64 a0_2) ∧ w'.cell? ⟨gb152, 3, none⟩ = some (.int .i64 a0_3) ∧ w'.cell? ⟨gb152, 4, none⟩ = some (.bool a0_4)) (ds := []) #[false, false, false, false, false, false, false, false, false, false, false, false] (by kernel_rfl) rfl rfl ⟨(blk_cell BK152.out 0).trans rfl, (blk_cell BK152.out 1).trans rfl, (blk_cell BK152.out 2).trans rfl, (blk_cell BK152.out 3).trans rfl, (blk_cell BK152.out 4).trans rfl⟩ (fun hHeld => ?_); refine with_tabW signalbenchlaw04_CheckParts.tab4 signalbenchlaw04_CheckParts.bits4 (fun HT_ HW_ => ?_)
     generalize w16.drew = w17 at BK152 HB hHeld ⊢
     refine pstep 1 (some 31) #[false, true, false, false, false, false, false, false, false, false, false, false] HT_.out ?_
     refine pstep 2 (some 32) #[false, true, true, false, false, false, false, false, false, false, false, false] HT_.out ?_
     refine take_ (i := 0) (N := some 30) (v := ?_) (a' := ?_) #[true, true, true, false, false, false, false, false, false, false, false, false] rfl rfl (take_ofW HT_.out HW_.out (by kernel_rfl)) (fun _ _ _ h => h) (Or.inl ⟨by rfl, ?_⟩) hHeld ?_ ?_
     rotate_left
     ·rintro w' ⟨s0, s1, s2, s3, s4⟩
      go_simp
      with_reducible rfl
     rotate_left
     ·simp only [Act.put, nrm]
      rfl
     refine take_ (i := 3) (N := some 33) (v := ?_) (a' := ?_) #[true, true, true, true, false, false, false, false, false, false, false, false] rfl rfl (take_ofW HT_.out HW_.out (by kernel_rfl)) (fun _ _ _ h => h) (Or.inl ⟨by rfl, ?_⟩) hHeld ?_ ?_
     rotate_left
     ·rintro w' ⟨s0, s1, s2, s3, s4⟩
      go_simp
      with_reducible rfl
     rotate_left
     ·simp only [Act.put, nrm]
      rfl
     refine pstep 4 (some 34) #[true, true, true, true, true, false, false, false, false, false, false, false] HT_.out ?_
     refine one_ (i := 5) (N := some 35) #[true, true, true, true, true, true, false, false, false, false, false, false] rfl rfl (one_of HT_.out (by kernel_rfl)) (by decide) (fun K hK => ?_)
     refine goes_ Tryd.func32 (by kernel_rfl) rfl #[.string a1, .bool (!a0_4)] (by rfl) rfl rfl (by (try simp only [List.map_toArray, List.map_cons, List.map_nil]); first | done | rfl | (simp only [List.length_drop, List.length_take]; rfl)) ?_
     with_reducible refine (bits_FromBytes.calls kj6 a1 (!a0_4) t156 _ A12.out).mono ?_
     rintro e w18 ⟨rfl, hb⟩
     refine ⟨_, rfl, ?_⟩
     have n0_ := Aside0.mk (blkb BK152.out hb)
     have n1_ := Aside0.mk (below_step (hbw HB.out) hb)
     clear BK152
     clear HB
     have BK152 := n0_
     have HB := n1_
     clear n0_ n1_
     (try clear hb)
     (try clear hb2)
     (try clear hk)
     (try clear hi)
     refine hK.out _ _ ⟨(blk_cell BK152.out 0).trans rfl, (blk_cell BK152.out 1).trans rfl, (blk_cell BK152.out 2).trans rfl, (blk_cell BK152.out 3).trans rfl, (blk_cell BK152.out 4).trans rfl⟩ (fun hHeld => ?_)
     clear hK K
     refine norm_ (a' := ?_) ?_ ?_
     rotate_left
     ·show Act.put _ (some 35) _ = _
      simp only [Act.put, nrm]
      rfl
     refine one_ (i := 6) (N := some 36) #[true, true, true, true, true, true, true, false, false, false, false, false] rfl rfl (one_of HT_.out (by kernel_rfl)) (by decide) (fun K hK => ?_)
     refine goes_ Tryd.func12 (by kernel_rfl) rfl #[.agg #[.int .i64 a0_0, .int .i64 a0_1, .int .i64 a0_2, .int .i64 a0_3, .bool a0_4], .string t156] (by rfl) rfl rfl (by (try simp only [List.map_toArray, List.map_cons, List.map_nil]); first | done | rfl | (simp only [List.length_drop, List.length_take]; rfl)) ?_
     with_reducible refine (check_Bits.calls kj6 a0_0 a0_1 a0_2 a0_3 a0_4 t156 t157 t158 _ A13.out).mono ?_
     rintro e w19 ⟨rfl, hb⟩
     refine ⟨_, rfl, ?_⟩
     have n0_ := Aside0.mk (blkb BK152.out hb)
     have n1_ := Aside0.mk (below_step (hbw HB.out) hb)
     clear BK152
     clear HB
     have BK152 := n0_
     have HB := n1_
     clear n0_ n1_
     (try clear hb)
     (try clear hb2)
     (try clear hk)
     (try clear hi)
     refine hK.out _ _ ⟨(blk_cell BK152.out 0).trans rfl, (blk_cell BK152.out 1).trans rfl, (blk_cell BK152.out 2).trans rfl, (blk_cell BK152.out 3).trans rfl, (blk_cell BK152.out 4).trans rfl⟩ (fun hHeld => ?_)
     clear hK K
     refine norm_ (a' := ?_) ?_ ?_
     rotate_left
     ·show Act.put _ (some 36) _ = _
      simp only [Act.put, nrm]
      rfl
     refine pstep 7 (some 29) #[true, true, true, true, true, true, true, true, false, false, false, false] HT_.out ?_
     refine pstep 8 (some 37) #[true, true, true, true, true, true, true, true, true, false, false, false] HT_.out ?_
     refine pstep 9 (some 38) #[true, true, true, true, true, true, true, true, true, true, false, false] HT_.out ?_
     refine pstep 10 (some 9) #[true, true, true, true, true, true, true, true, true, true, true, false] HT_.out ?_
     refine pstep 11 (some 10) #[true, true, true, true, true, true, true, true, true, true, true, true] HT_.out ?_
     refine done_ (done_of HT_.out (by kernel_rfl)) ?_
     go_upto_region 5 with (fail)
     go_cut [46] (fun v46 wc => ∃ (kq : Nat) (x46_13 : Bool), v46 = .bool x46_13 ∧ Aside0 (signalbenchlaw04_CheckParts.j2 kq a1 a2 x46_13 = some r) ∧ Aside0 (kq ≤ kj6) ∧ Aside0 (wc.heap[gb152]? = some (.cells #[.int .i64 a0_0, .int .i64 a0_1, .int .i64 a0_2, .int .i64 a0_3, .bool a0_4] 23 (0, 0))) ∧ Aside0 (Below w.heap.size w wc))
     case first =>
      have H := HC14.out
      clear HC14
      by_cases c20 : t154 = t157
      ·rw [if_pos c20] at H
       have c20b0 : (t154 == t157) = true := beq_iff_eq.mpr c20
       have c20b1 : (t154 != t157) = false := bne_eq_false_iff_eq.mpr c20
       clear c20
       (first | rw [c20b0] | (simp only [i64_w, i32_w]; rw [c20b0]) | skip)
       have H' := Aside0.mk H
       clear H
       go_wp2
       go_meet
       case rel => exact ⟨_, ((t155 != t158)), (by first | rfl | (simp; done) | (simp [*]; done)), H', ⟨by have := HJ3.out; have := HJ6.out; first | omega | exact Nat.le_refl _⟩, ⟨by (with_reducible repeat (first | refine blk_drewN ?_ _ | refine blk_drew ?_ | refine blk_alloc ?_ _)); exact BK152.out⟩, ⟨by repeat (first | (with_reducible first | exact HB.out | apply below_alloc | apply pw_below_drewN | apply below_drew1 | refine below_set ?_ GE152.out) | exact HB.out)⟩⟩
      ·rw [if_neg c20] at H
       have c20b0 : (t154 == t157) = false := beq_eq_false_iff_ne.mpr c20
       have c20b1 : (t154 != t157) = true := bne_iff_ne.mpr c20
       (first | rw [c20b0] | (simp only [i64_w, i32_w]; rw [c20b0]) | skip)
       have H' := Aside0.mk H
       clear H
       go_wp2
       go_meet
       case rel => exact ⟨_, (true), (by first | rfl | (simp; done) | (simp [*]; done)), H', ⟨by have := HJ3.out; have := HJ6.out; first | omega | exact Nat.le_refl _⟩, ⟨by (with_reducible repeat (first | refine blk_drewN ?_ _ | refine blk_drew ?_ | refine blk_alloc ?_ _)); exact BK152.out⟩, ⟨by repeat (first | (with_reducible first | exact HB.out | apply below_alloc | apply pw_below_drewN | apply below_drew1 | refine below_set ?_ GE152.out) | exact HB.out)⟩⟩
     case rest =>
      clear HC14
      try clear c1
      try clear c2
      try clear p2
      try clear c3
      try clear c6
      try clear c6b0
      try clear c6b1
      try clear c8
      try clear c10
      try clear c11
      try clear c12
      try clear c14
      try clear c20
      try clear c20b0
      try clear c20b1
      try clear hcz15_0
      try clear hcz15_1
      try clear hcz15_2
      try clear hcz15_3
      try clear hcz15_4
      try clear hfz15_0
      try clear hfz15_1
      try clear hfz15_2
      try clear hfz15_3
      try clear hfz15_4
      try clear p2
      obtain ⟨kq, x46_13, rfl, HA, HJ13, BK152, HB⟩ := hcut
      cases kq with
      | zero => exact absurd HA.out (by simp [signalbenchlaw04_CheckParts.j2])
      | succ kj13 =>
       have H := HA.out
       clear HA
       simp only [signalbenchlaw04_CheckParts.j2] at H
       have HC21 := Aside0.mk H
       clear H
       go_upto_if 46 with (fail)
       go_cut [] (fun wc => ∃ (kq : Nat), Aside0 (signalbenchlaw04_CheckParts.j3 kq a1 a2 = some r) ∧ Aside0 (kq ≤ kj13) ∧ Aside0 (wc.heap[gb152]? = some (.cells #[.int .i64 a0_0, .int .i64 a0_1, .int .i64 a0_2, .int .i64 a0_3, .bool a0_4] 23 (0, 0))) ∧ Aside0 (Below w.heap.size w wc))
       case first =>
        have H := HC21.out
        clear HC21
        by_cases c22 : x46_13 = true
        ·subst c22
         have H1 : (some false) = some r := by rw [if_pos rfl] at H; exact H
         clear H
         have H := H1
         clear H1
         obtain rfl := Option.some.inj H
         go_wp2
         go_ret
         exact ⟨by first | rfl | (simp [errW_none, errW_some] <;> rfl) | (simp [*, errW_none, errW_some] <;> rfl), by repeat (first | (with_reducible first | exact HB.out | apply below_alloc | apply pw_below_drewN | apply below_drew1 | refine below_set ?_ GE152.out) | exact HB.out)⟩
        ·replace c22 := Bool.eq_false_iff.mpr c22
         subst c22
         have H1 : (signalbenchlaw04_CheckParts.j3 kj13 a1 a2) = some r := by rw [if_neg (show ¬ (false = true) by decide)] at H; exact H
         clear H
         have H := H1
         clear H1
         have H' := Aside0.mk H
         clear H
         go_wp2
         go_meet
         case rel => exact ⟨_, H', ⟨by have := HJ3.out; have := HJ6.out; have := HJ13.out; first | omega | exact Nat.le_refl _⟩, ⟨by (with_reducible repeat (first | refine blk_drewN ?_ _ | refine blk_drew ?_ | refine blk_alloc ?_ _)); exact BK152.out⟩, ⟨by repeat (first | (with_reducible first | exact HB.out | apply below_alloc | apply pw_below_drewN | apply below_drew1 | refine below_set ?_ GE152.out) | exact HB.out)⟩⟩
       case rest =>
        clear HC21
        try clear c1
        try clear c2
        try clear p2
        try clear c3
        try clear c6
        try clear c6b0
        try clear c6b1
        try clear c8
        try clear c10
        try clear c11
        try clear c12
        try clear c14
        try clear c20
        try clear c20b0
        try clear c20b1
        try clear c22
        try clear hcz15_0
        try clear hcz15_1
        try clear hcz15_2
        try clear hcz15_3
        try clear hcz15_4
        try clear hfz15_0
        try clear hfz15_1
        try clear hfz15_2
        try clear hfz15_3
        try clear hfz15_4
        try clear p2
        obtain ⟨kq, HA, HJ20, BK152, HB⟩ := hcut
        cases kq with
        | zero => exact absurd HA.out (by simp [signalbenchlaw04_CheckParts.j3])
        | succ kj20 =>
         have H := HA.out
         clear HA
         simp only [signalbenchlaw04_CheckParts.j3] at H
         replace H := Option.bind_eq_some_iff.mp H
         obtain ⟨t159, A230, H⟩ := H
         replace H : ((check_Carry.f kj20 a2).bind fun t160 => (if (wrap64 ((wrap64 (255 - t159)) + (wrap64 (255 - t160)))) > 255 then (signalbenchlaw04_CheckParts.j4 kj20 a1 a2 (wrap64 ((wrap64 ((wrap64 (255 - t159)) + (wrap64 (255 - t160)))) - 255))) else (signalbenchlaw04_CheckParts.j4 kj20 a1 a2 (wrap64 ((wrap64 (255 - t159)) + (wrap64 (255 - t160))))))) = some r := H
         have A23 := Aside0.mk A230
         clear A230
         replace H := Option.bind_eq_some_iff.mp H
         obtain ⟨t160, A240, H⟩ := H
         replace H : (if (wrap64 ((wrap64 (255 - t159)) + (wrap64 (255 - t160)))) > 255 then (signalbenchlaw04_CheckParts.j4 kj20 a1 a2 (wrap64 ((wrap64 ((wrap64 (255 - t159)) + (wrap64 (255 - t160)))) - 255))) else (signalbenchlaw04_CheckParts.j4 kj20 a1 a2 (wrap64 ((wrap64 (255 - t159)) + (wrap64 (255 - t160)))))) = some r := H
         have A24 := Aside0.mk A240
         clear A240
         have HC25 := Aside0.mk H
         clear H
         go_upto_if 57 with (first | ((with_reducible refine gate_callee (f := 20) rfl ?_); refine goesL_ (some 48) rfl rfl Tryd.func20 (by kernel_rfl) rfl #[.string a1] rfl (by (try simp only [List.map_toArray, List.map_cons, List.map_nil]); first | done | rfl | (simp only [List.length_drop, List.length_take]; rfl)) ?_; (with_reducible refine (check_Carry.calls kj20 a1 t159 _ A23.out).mono ?_); rintro e w' ⟨rfl, ⟨nd, rfl⟩⟩; refine ⟨_, rfl, ?_⟩) | ((with_reducible refine gate_callee (f := 20) rfl ?_); refine goesL_ (some 51) rfl rfl Tryd.func20 (by kernel_rfl) rfl #[.string a2] rfl (by (try simp only [List.map_toArray, List.map_cons, List.map_nil]); first | done | rfl | (simp only [List.length_drop, List.length_take]; rfl)) ?_; (with_reducible refine (check_Carry.calls kj20 a2 t160 _ A24.out).mono ?_); rintro e w' ⟨rfl, ⟨nd, rfl⟩⟩; refine ⟨_, rfl, ?_⟩))
         (try simp only [Act.put, List.setIfInBounds_toArray, List.set_cons_zero, List.set_cons_succ])
         go_cut [13] (fun v13 wc => ∃ (kq : Nat) (x13_24 : Int), v13 = .int .i64 x13_24 ∧ Aside0 (signalbenchlaw04_CheckParts.j4 kq a1 a2 x13_24 = some r) ∧ Aside0 (kq ≤ kj20) ∧ Aside0 (wc.heap[gb152]? = some (.cells #[.int .i64 a0_0, .int .i64 a0_1, .int .i64 a0_2, .int .i64 a0_3, .bool a0_4] 23 (0, 0))) ∧ Aside0 (Below w.heap.size w wc))
         case first =>
          have H := HC25.out
          clear HC25
          by_cases c26 : (wrap64 ((wrap64 (255 - t159)) + (wrap64 (255 - t160)))) > 255
          ·rw [if_pos c26] at H
           have c26b0 : decide (255 < (wrap64 ((wrap64 (255 - t159)) + (wrap64 (255 - t160))))) = true := decide_eq_true c26
           clear c26
           (first | rw [c26b0] | (simp only [i64_w, i32_w]; rw [c26b0]) | skip)
           have H' := Aside0.mk H
           clear H
           go_wp2
           go_meet
           case rel => exact ⟨_, (wrap64 ((wrap64 ((wrap64 (255 - t159)) + (wrap64 (255 - t160)))) - 255)), (by first | rfl | (simp; done) | (simp [*]; done)), H', ⟨by have := HJ3.out; have := HJ6.out; have := HJ13.out; have := HJ20.out; first | omega | exact Nat.le_refl _⟩, ⟨by (with_reducible repeat (first | refine blk_drewN ?_ _ | refine blk_drew ?_ | refine blk_alloc ?_ _)); exact BK152.out⟩, ⟨by repeat (first | (with_reducible first | exact HB.out | apply below_alloc | apply pw_below_drewN | apply below_drew1 | refine below_set ?_ GE152.out) | exact HB.out)⟩⟩
          ·rw [if_neg c26] at H
           have c26b0 : decide (255 < (wrap64 ((wrap64 (255 - t159)) + (wrap64 (255 - t160))))) = false := decide_eq_false c26
           clear c26
           (first | rw [c26b0] | (simp only [i64_w, i32_w]; rw [c26b0]) | skip)
           have H' := Aside0.mk H
           clear H
           go_wp2
           go_meet
           case rel => exact ⟨_, (wrap64 ((wrap64 (255 - t159)) + (wrap64 (255 - t160)))), (by first | rfl | (simp; done) | (simp [*]; done)), H', ⟨by have := HJ3.out; have := HJ6.out; have := HJ13.out; have := HJ20.out; first | omega | exact Nat.le_refl _⟩, ⟨by (with_reducible repeat (first | refine blk_drewN ?_ _ | refine blk_drew ?_ | refine blk_alloc ?_ _)); exact BK152.out⟩, ⟨by repeat (first | (with_reducible first | exact HB.out | apply below_alloc | apply pw_below_drewN | apply below_drew1 | refine below_set ?_ GE152.out) | exact HB.out)⟩⟩
         case rest =>
          clear HC25
          try clear c1
          try clear c2
          try clear p2
          try clear c3
          try clear c6
          try clear c6b0
          try clear c6b1
          try clear p6
          try clear c8
          try clear c10
          try clear c11
          try clear c12
          try clear c14
          try clear c20
          try clear c20b0
          try clear c20b1
          try clear c22
          try clear c26
          try clear c26b0
          try clear hcz15_0
          try clear hcz15_1
          try clear hcz15_2
          try clear hcz15_3
          try clear hcz15_4
          try clear hfz15_0
          try clear hfz15_1
          try clear hfz15_2
          try clear hfz15_3
          try clear hfz15_4
          try clear p2
          obtain ⟨kq, x13_24, rfl, HA, HJ24, BK152, HB⟩ := hcut
          cases kq with
          | zero => exact absurd HA.out (by simp [signalbenchlaw04_CheckParts.j4])
          | succ kj24 =>
           have H := HA.out
           clear HA
           simp only [signalbenchlaw04_CheckParts.j4] at H
           by_cases c27 : a1.size + a2.size ≤ 9223372036854775807
           ·rw [if_pos c27] at H
            have c27b0 := eq_true c27
            have c27b1 : decide (a1.size + a2.size ≤ 9223372036854775807) = true := decide_eq_true c27
            try have c27b2 : (9223372036854775807 < a1.size + a2.size) = False := eq_false (Nat.not_lt.2 c27)
            replace H := Option.bind_eq_some_iff.mp H
            obtain ⟨t161, A280, H⟩ := H
            replace H : (if t161 = (wrap64 (255 - x13_24)) then ((check_Sum.f kj24 (a1 ++ a2)).bind fun t162 => ((check_Sum.f kj24 a1).bind fun t163 => ((check_Sum.f kj24 a2).bind fun t164 => (if t162 = (Int.tmod (wrap64 (t163 + t164)) 256) then ((check_Xor.f kj24 (a1 ++ a2)).bind fun t165 => ((check_Xor.f kj24 a1).bind fun t166 => ((check_Xor.f kj24 a2).bind fun t167 => (if t165 = (Go.bits .xor .i64 t166 t167) then ((signalbenchlaw04_awake.f kj24).bind fun t168 => (some t168)) else (some false))))) else (some false))))) else (some false)) = some r := H
            have A28 := Aside0.mk A280
            clear A280
            by_cases c29 : t161 = (wrap64 (255 - x13_24))
            ·rw [if_pos c29] at H
             have c29b0 : (t161 == (wrap64 (255 - x13_24))) = true := beq_iff_eq.mpr c29
             have c29b1 : (t161 != (wrap64 (255 - x13_24))) = false := bne_eq_false_iff_eq.mpr c29
             clear c29
             replace H := Option.bind_eq_some_iff.mp H
             obtain ⟨t162, A300, H⟩ := H
             replace H : ((check_Sum.f kj24 a1).bind fun t163 => ((check_Sum.f kj24 a2).bind fun t164 => (if t162 = (Int.tmod (wrap64 (t163 + t164)) 256) then ((check_Xor.f kj24 (a1 ++ a2)).bind fun t165 => ((check_Xor.f kj24 a1).bind fun t166 => ((check_Xor.f kj24 a2).bind fun t167 => (if t165 = (Go.bits .xor .i64 t166 t167) then ((signalbenchlaw04_awake.f kj24).bind fun t168 => (some t168)) else (some false))))) else (some false)))) = some r := H
             have A30 := Aside0.mk A300
             clear A300
             replace H := Option.bind_eq_some_iff.mp H
             obtain ⟨t163, A310, H⟩ := H
             replace H : ((check_Sum.f kj24 a2).bind fun t164 => (if t162 = (Int.tmod (wrap64 (t163 + t164)) 256) then ((check_Xor.f kj24 (a1 ++ a2)).bind fun t165 => ((check_Xor.f kj24 a1).bind fun t166 => ((check_Xor.f kj24 a2).bind fun t167 => (if t165 = (Go.bits .xor .i64 t166 t167) then ((signalbenchlaw04_awake.f kj24).bind fun t168 => (some t168)) else (some false))))) else (some false))) = some r := H
             have A31 := Aside0.mk A310
             clear A310
             replace H := Option.bind_eq_some_iff.mp H
             obtain ⟨t164, A320, H⟩ := H
             replace H : (if t162 = (Int.tmod (wrap64 (t163 + t164)) 256) then ((check_Xor.f kj24 (a1 ++ a2)).bind fun t165 => ((check_Xor.f kj24 a1).bind fun t166 => ((check_Xor.f kj24 a2).bind fun t167 => (if t165 = (Go.bits .xor .i64 t166 t167) then ((signalbenchlaw04_awake.f kj24).bind fun t168 => (some t168)) else (some false))))) else (some false)) = some r := H
             have A32 := Aside0.mk A320
             clear A320
             by_cases c33 : t162 = (Int.tmod (wrap64 (t163 + t164)) 256)
             ·rw [if_pos c33] at H
              have c33b0 : (t162 == (Int.tmod (wrap64 (t163 + t164)) 256)) = true := beq_iff_eq.mpr c33
              have c33b1 : (t162 != (Int.tmod (wrap64 (t163 + t164)) 256)) = false := bne_eq_false_iff_eq.mpr c33
              clear c33
              replace H := Option.bind_eq_some_iff.mp H
              obtain ⟨t165, A340, H⟩ := H
              replace H : ((check_Xor.f kj24 a1).bind fun t166 => ((check_Xor.f kj24 a2).bind fun t167 => (if t165 = (Go.bits .xor .i64 t166 t167) then ((signalbenchlaw04_awake.f kj24).bind fun t168 => (some t168)) else (some false)))) = some r := H
              have A34 := Aside0.mk A340
              clear A340
              replace H := Option.bind_eq_some_iff.mp H
              obtain ⟨t166, A350, H⟩ := H
              replace H : ((check_Xor.f kj24 a2).bind fun t167 => (if t165 = (Go.bits .xor .i64 t166 t167) then ((signalbenchlaw04_awake.f kj24).bind fun t168 => (some t168)) else (some false))) = some r := H
              have A35 := Aside0.mk A350
              clear A350
              replace H := Option.bind_eq_some_iff.mp H
              obtain ⟨t167, A360, H⟩ := H
              replace H : (if t165 = (Go.bits .xor .i64 t166 t167) then ((signalbenchlaw04_awake.f kj24).bind fun t168 => (some t168)) else (some false)) = some r := H
              have A36 := Aside0.mk A360
              clear A360
              by_cases c37 : t165 = (Go.bits .xor .i64 t166 t167)
              ·rw [if_pos c37] at H
               have c37b0 : (t165 == (Go.bits .xor .i64 t166 t167)) = true := beq_iff_eq.mpr c37
               have c37b1 : (t165 != (Go.bits .xor .i64 t166 t167)) = false := bne_eq_false_iff_eq.mpr c37
               clear c37
               replace H := Option.bind_eq_some_iff.mp H
               obtain ⟨t168, A380, H⟩ := H
               replace H : (some t168) = some r := H
               have A38 := Aside0.mk A380
               clear A380
               obtain rfl := Option.some.inj H
               go_wp2_with (first | ((with_reducible refine gate_callee (f := 20) rfl ?_); refine goesL_ (some 63) rfl rfl Tryd.func20 (by kernel_rfl) rfl #[.string (a1 ++ a2)] rfl (by (try simp only [List.map_toArray, List.map_cons, List.map_nil]); first | done | rfl | (simp only [List.length_drop, List.length_take]; rfl)) ?_; (with_reducible refine (check_Carry.calls kj24 (a1 ++ a2) t161 _ A28.out).mono ?_); rintro e w' ⟨rfl, ⟨nd, rfl⟩⟩; refine ⟨_, rfl, ?_⟩) | (go_at_call 16; (with_reducible refine (check_Sum.calls kj24 (a1 ++ a2) t162 _ A30.out).mono ?_); rintro e w' ⟨rfl, ⟨nd, rfl⟩⟩) | (go_at_call 16; (with_reducible refine (check_Sum.calls kj24 a1 t163 _ A31.out).mono ?_); rintro e w' ⟨rfl, ⟨nd, rfl⟩⟩) | (go_at_call 16; (with_reducible refine (check_Sum.calls kj24 a2 t164 _ A32.out).mono ?_); rintro e w' ⟨rfl, ⟨nd, rfl⟩⟩) | (go_at_call 18; (with_reducible refine (check_Xor.calls kj24 (a1 ++ a2) t165 _ A34.out).mono ?_); rintro e w' ⟨rfl, ⟨nd, rfl⟩⟩) | (go_at_call 18; (with_reducible refine (check_Xor.calls kj24 a1 t166 _ A35.out).mono ?_); rintro e w' ⟨rfl, ⟨nd, rfl⟩⟩) | (go_at_call 18; (with_reducible refine (check_Xor.calls kj24 a2 t167 _ A36.out).mono ?_); rintro e w' ⟨rfl, ⟨nd, rfl⟩⟩) | (go_at_call 11; (with_reducible refine (signalbenchlaw04_awake.calls kj24  t168 _ ?side1 A38.out).mono ?_); (case side1 => refine TabOk.below hT_ ?_; repeat (first | (with_reducible first | exact HB.out | apply below_alloc | apply pw_below_drewN | apply below_drew1 | refine below_set ?_ GE152.out) | exact HB.out)); rintro e w39 ⟨rfl, hb⟩; have n0_ := Aside0.mk (blkb BK152.out hb); have n1_ := Aside0.mk (below_step (hbw HB.out) hb); clear BK152; clear HB; have BK152 := n0_; have HB := n1_; clear n0_ n1_; (try clear hb); (try clear hb2); (try clear hk); (try clear hi)))
               go_ret
               exact ⟨by first | rfl | (simp [errW_none, errW_some] <;> rfl) | (simp [*, errW_none, errW_some] <;> rfl), by repeat (first | (with_reducible first | exact HB.out | apply below_alloc | apply pw_below_drewN | apply below_drew1 | refine below_set ?_ GE152.out) | exact HB.out)⟩
              ·rw [if_neg c37] at H
               have c37b0 : (t165 == (Go.bits .xor .i64 t166 t167)) = false := beq_eq_false_iff_ne.mpr c37
               have c37b1 : (t165 != (Go.bits .xor .i64 t166 t167)) = true := bne_iff_ne.mpr c37
               obtain rfl := Option.some.inj H
               go_wp2_with (first | ((with_reducible refine gate_callee (f := 20) rfl ?_); refine goesL_ (some 63) rfl rfl Tryd.func20 (by kernel_rfl) rfl #[.string (a1 ++ a2)] rfl (by (try simp only [List.map_toArray, List.map_cons, List.map_nil]); first | done | rfl | (simp only [List.length_drop, List.length_take]; rfl)) ?_; (with_reducible refine (check_Carry.calls kj24 (a1 ++ a2) t161 _ A28.out).mono ?_); rintro e w' ⟨rfl, ⟨nd, rfl⟩⟩; refine ⟨_, rfl, ?_⟩) | (go_at_call 16; (with_reducible refine (check_Sum.calls kj24 (a1 ++ a2) t162 _ A30.out).mono ?_); rintro e w' ⟨rfl, ⟨nd, rfl⟩⟩) | (go_at_call 16; (with_reducible refine (check_Sum.calls kj24 a1 t163 _ A31.out).mono ?_); rintro e w' ⟨rfl, ⟨nd, rfl⟩⟩) | (go_at_call 16; (with_reducible refine (check_Sum.calls kj24 a2 t164 _ A32.out).mono ?_); rintro e w' ⟨rfl, ⟨nd, rfl⟩⟩) | (go_at_call 18; (with_reducible refine (check_Xor.calls kj24 (a1 ++ a2) t165 _ A34.out).mono ?_); rintro e w' ⟨rfl, ⟨nd, rfl⟩⟩) | (go_at_call 18; (with_reducible refine (check_Xor.calls kj24 a1 t166 _ A35.out).mono ?_); rintro e w' ⟨rfl, ⟨nd, rfl⟩⟩) | (go_at_call 18; (with_reducible refine (check_Xor.calls kj24 a2 t167 _ A36.out).mono ?_); rintro e w' ⟨rfl, ⟨nd, rfl⟩⟩))
               go_ret
               exact ⟨by first | rfl | (simp [errW_none, errW_some] <;> rfl) | (simp [*, errW_none, errW_some] <;> rfl), by repeat (first | (with_reducible first | exact HB.out | apply below_alloc | apply pw_below_drewN | apply below_drew1 | refine below_set ?_ GE152.out) | exact HB.out)⟩
             ·rw [if_neg c33] at H
              have c33b0 : (t162 == (Int.tmod (wrap64 (t163 + t164)) 256)) = false := beq_eq_false_iff_ne.mpr c33
              have c33b1 : (t162 != (Int.tmod (wrap64 (t163 + t164)) 256)) = true := bne_iff_ne.mpr c33
              obtain rfl := Option.some.inj H
              go_wp2_with (first | ((with_reducible refine gate_callee (f := 20) rfl ?_); refine goesL_ (some 63) rfl rfl Tryd.func20 (by kernel_rfl) rfl #[.string (a1 ++ a2)] rfl (by (try simp only [List.map_toArray, List.map_cons, List.map_nil]); first | done | rfl | (simp only [List.length_drop, List.length_take]; rfl)) ?_; (with_reducible refine (check_Carry.calls kj24 (a1 ++ a2) t161 _ A28.out).mono ?_); rintro e w' ⟨rfl, ⟨nd, rfl⟩⟩; refine ⟨_, rfl, ?_⟩) | (go_at_call 16; (with_reducible refine (check_Sum.calls kj24 (a1 ++ a2) t162 _ A30.out).mono ?_); rintro e w' ⟨rfl, ⟨nd, rfl⟩⟩) | (go_at_call 16; (with_reducible refine (check_Sum.calls kj24 a1 t163 _ A31.out).mono ?_); rintro e w' ⟨rfl, ⟨nd, rfl⟩⟩) | (go_at_call 16; (with_reducible refine (check_Sum.calls kj24 a2 t164 _ A32.out).mono ?_); rintro e w' ⟨rfl, ⟨nd, rfl⟩⟩))
              go_ret
              exact ⟨by first | rfl | (simp [errW_none, errW_some] <;> rfl) | (simp [*, errW_none, errW_some] <;> rfl), by repeat (first | (with_reducible first | exact HB.out | apply below_alloc | apply pw_below_drewN | apply below_drew1 | refine below_set ?_ GE152.out) | exact HB.out)⟩
            ·rw [if_neg c29] at H
             have c29b0 : (t161 == (wrap64 (255 - x13_24))) = false := beq_eq_false_iff_ne.mpr c29
             have c29b1 : (t161 != (wrap64 (255 - x13_24))) = true := bne_iff_ne.mpr c29
             obtain rfl := Option.some.inj H
             go_wp2_with (first | ((with_reducible refine gate_callee (f := 20) rfl ?_); refine goesL_ (some 63) rfl rfl Tryd.func20 (by kernel_rfl) rfl #[.string (a1 ++ a2)] rfl (by (try simp only [List.map_toArray, List.map_cons, List.map_nil]); first | done | rfl | (simp only [List.length_drop, List.length_take]; rfl)) ?_; (with_reducible refine (check_Carry.calls kj24 (a1 ++ a2) t161 _ A28.out).mono ?_); rintro e w' ⟨rfl, ⟨nd, rfl⟩⟩; refine ⟨_, rfl, ?_⟩))
             go_ret
             exact ⟨by first | rfl | (simp [errW_none, errW_some] <;> rfl) | (simp [*, errW_none, errW_some] <;> rfl), by repeat (first | (with_reducible first | exact HB.out | apply below_alloc | apply pw_below_drewN | apply below_drew1 | refine below_set ?_ GE152.out) | exact HB.out)⟩
           ·rw [if_neg c27] at H
            exact absurd H (by simp)

/-- THE ONE PURE STATEMENT of signalbenchlaw04_CheckParts: yours. -/
def signalbenchlaw04_CheckParts.Pure : Prop := ∀ (a0_0 : Int) (a0_1 : Int) (a0_2 : Int) (a0_3 : Int) (a0_4 : Bool) (a1 : ByteArray) (a2 : ByteArray), (Lit.int .i64 a0_0).wf = true → (Lit.int .i64 a0_1).wf = true → (Lit.int .i64 a0_2).wf = true → (Lit.int .i64 a0_3).wf = true → a1.size ≤ 140737488351232 → a2.size ≤ 140737488351232 → ∃ k, signalbenchlaw04_CheckParts.f k a0_0 a0_1 a0_2 a0_3 a0_4 a1 a2 = some true
theorem signalbenchlaw04_CheckParts.walk (P : signalbenchlaw04_CheckParts.Pure) (a0_0 : Int) (a0_1 : Int) (a0_2 : Int) (a0_3 : Int) (a0_4 : Bool) (a1 : ByteArray) (a2 : ByteArray) (w : World) (hT_ : TabOk w)  (w0_ : (Lit.int .i64 a0_0).wf = true) (w1_ : (Lit.int .i64 a0_1).wf = true) (w2_ : (Lit.int .i64 a0_2).wf = true) (w3_ : (Lit.int .i64 a0_3).wf = true) (w4_ : a1.size ≤ 140737488351232) (w5_ : a2.size ≤ 140737488351232) :
  Calls Tryd.prog 10 #[.agg #[.int .i64 a0_0, .int .i64 a0_1, .int .i64 a0_2, .int .i64 a0_3, .bool a0_4], .string a1, .string a2] w fun e w' => e = .returned (.bool true) ∧ Below w.heap.size w w' := by
 obtain ⟨k, h⟩ := P a0_0 a0_1 a0_2 a0_3 a0_4 a1 a2 w0_ w1_ w2_ w3_ w4_ w5_
 refine (signalbenchlaw04_CheckParts.calls k a0_0 a0_1 a0_2 a0_3 a0_4 a1 a2 true w hT_  h).mono ?_
 rintro e w' ⟨rfl, hd⟩
 exact ⟨rfl, hd⟩

end Go.Proofs.YteeejopgaegaoaaDoor.PCheckParts
