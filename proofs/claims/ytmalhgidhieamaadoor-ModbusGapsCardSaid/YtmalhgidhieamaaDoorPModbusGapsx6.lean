-- Written by a program of this session (wip/tools/pr.py), which calls the kit's print with changes of its own.
import Derived.Test.YtmalhgidhieamaaDoorPModbusGapsx0
import Derived.Test.YtmalhgidhieamaaDoorPModbusGapsx5
namespace Go.Proofs.YtmalhgidhieamaaDoor.PModbusGaps
open Go.RowKit Go.Proofs.YtmalhgidhieamaaDoorW.PrintWords Go.Proofs.YtmalhgidhieamaaDoorW.PrintLast Go.Proofs.YtmalhgidhieamaaDoorW.PrintMore
attribute [local go_sem] max2_int min2_int max_two min_two max_three min_three max_four min_four   -- for this text's walks alone
set_option linter.unusedVariables false
set_option linter.unusedSimpArgs false

/-! ### modbus_frame_complete: function 34 -/
def modbus_frame_complete.f (k : Nat) (a0_0 : Int) (a0_1 : Int) (a0_2 : Int) (a0_3 : ByteArray) : Option (Int × Int × Int × Int × Int × ByteArray × Int) := if a0_2 < 4 then (some (5, a0_0, a0_1, 0, 0, a0_3, 8)) else (if 0 < (a0_3.size : Int) then (if 1 < (a0_3.size : Int) then (if a0_2 > 4100 then (if 2 ≤ 4098 then (if 4098 ≤ (a0_3.size : Int) then (some (5, a0_0, a0_1, wrap64 (bt a0_3 0), wrap64 (bt a0_3 1), a0_3.extract 2 4098, 8)) else (none)) else (none)) else (if 2 ≤ (wrap64 (a0_2 - 2)) then (if (wrap64 (a0_2 - 2)) ≤ (a0_3.size : Int) then (if 0 ≤ (wrap64 (a0_2 - 2)) then ((modbus_sum.f k (a0_3.extract 0 ((wrap64 (a0_2 - 2)) : Int).toNat)).bind fun t128 => (if t128.toList = (a0_3.extract ((wrap64 (a0_2 - 2)) : Int).toNat a0_3.size).toList then (some (5, a0_0, a0_1, wrap64 (bt a0_3 0), wrap64 (bt a0_3 1), a0_3.extract 2 ((wrap64 (a0_2 - 2)) : Int).toNat, 0)) else (some (5, a0_0, a0_1, wrap64 (bt a0_3 0), wrap64 (bt a0_3 1), a0_3.extract 2 ((wrap64 (a0_2 - 2)) : Int).toNat, 3)))) else (none)) else (none)) else (none))) else (none)) else (none))
theorem modbus_frame_complete.mono : ∀ a0 a1 a2 a3 k, LeO (modbus_frame_complete.f k a0 a1 a2 a3) (modbus_frame_complete.f (k + 1) a0 a1 a2 a3) := by
 intro a0 a1 a2 a3 k
 unfold modbus_frame_complete.f
 repeat' first
   | (with_reducible exact modbus_sum.mono _ _)
   | (with_reducible exact LeO.refl _)
   | (with_reducible exact LeO.none _)
   | (with_reducible refine LeO.ite ?_ ?_)
   | (with_reducible refine LeO.bind ?_ (fun _ => ?_))
   | exact modbus_sum.mono _ _
   | exact LeO.none _
   | refine LeO.ite ?_ ?_
   | refine LeO.bind ?_ (fun _ => ?_)
def modbus_frame_complete.T4 : Bool × List (List Nat × List Nat) := (true, [([], []), ([0], [0]), ([1], [1]), ([2], [2]), ([], []), ([4], [4]), ([5], [5]), ([6], [6]), ([0, 1, 2, 3], []), ([8, 3, 0, 1, 2, 3], [3, 8]), ([0, 1, 2, 3, 4, 5, 6, 7, 8, 9], []), ([10, 7, 9, 0, 1, 2, 3, 4, 5, 6, 7, 8, 9], [7, 10])])
def modbus_frame_complete.B4 : List Nat := [0, 1, 3, 7, 0, 16, 48, 112, 15, 271, 1023, 2047]
theorem modbus_frame_complete.tab4 : rtab .any (opsOf Tryd.f34 4) = modbus_frame_complete.T4 := by kernel_rfl
theorem modbus_frame_complete.bits4 : waitsOk modbus_frame_complete.T4.2 modbus_frame_complete.B4 = true := by kernel_rfl
def modbus_frame_complete.T9 : Bool × List (List Nat × List Nat) := (true, [([], []), ([0], [0]), ([], []), ([2], [2]), ([3], [3]), ([1, 4], [1, 4]), ([5], [5]), ([], []), ([7], [7]), ([], []), ([9], [9]), ([10], [10]), ([8, 11], [8, 11]), ([6, 12], [6, 12])])
def modbus_frame_complete.B9 : List Nat := [0, 1, 0, 4, 12, 31, 63, 0, 128, 0, 512, 1536, 3968, 8191]
theorem modbus_frame_complete.tab9 : rtab .any (opsOf Tryd.f34 9) = modbus_frame_complete.T9 := by kernel_rfl
theorem modbus_frame_complete.bits9 : waitsOk modbus_frame_complete.T9.2 modbus_frame_complete.B9 = true := by kernel_rfl
set_option maxHeartbeats 8000000 in
set_option maxRecDepth 100000 in
theorem modbus_frame_complete.calls (k : Nat) (a0_0 : Int) (a0_1 : Int) (a0_2 : Int) (a0_3 : ByteArray) (r1 : Int) (r2 : Int) (r3 : Int) (r4 : Int) (r5 : Int) (r6 : ByteArray) (r7 : Int) (w : World) (hT_ : TabOk w) (h : modbus_frame_complete.f k a0_0 a0_1 a0_2 a0_3 = some (r1, r2, r3, r4, r5, r6, r7)) :
  Calls Tryd.prog 34 #[.agg #[.int .i64 a0_0, .int .i64 a0_1, .int .i64 a0_2, .string a0_3]] w fun e w' => e = .returned (.agg #[.int .i64 r1, .int .i64 r2, .int .i64 r3, .int .i64 r4, .int .i64 r5, .string r6, .int .i64 r7]) ∧ Below w.heap.size w w' := by
 have hu62 := Tryd.underlying62
 have hu32 := Tryd.underlying32
 have HB := Aside0.mk (Below.refl w.heap.size w)
 have H : (if a0_2 < 4 then (some (5, a0_0, a0_1, 0, 0, a0_3, 8)) else (if 0 < (a0_3.size : Int) then (if 1 < (a0_3.size : Int) then (if a0_2 > 4100 then (if 2 ≤ 4098 then (if 4098 ≤ (a0_3.size : Int) then (some (5, a0_0, a0_1, wrap64 (bt a0_3 0), wrap64 (bt a0_3 1), a0_3.extract 2 4098, 8)) else (none)) else (none)) else (if 2 ≤ (wrap64 (a0_2 - 2)) then (if (wrap64 (a0_2 - 2)) ≤ (a0_3.size : Int) then (if 0 ≤ (wrap64 (a0_2 - 2)) then ((modbus_sum.f k (a0_3.extract 0 ((wrap64 (a0_2 - 2)) : Int).toNat)).bind fun t128 => (if t128.toList = (a0_3.extract ((wrap64 (a0_2 - 2)) : Int).toNat a0_3.size).toList then (some (5, a0_0, a0_1, wrap64 (bt a0_3 0), wrap64 (bt a0_3 1), a0_3.extract 2 ((wrap64 (a0_2 - 2)) : Int).toNat, 0)) else (some (5, a0_0, a0_1, wrap64 (bt a0_3 0), wrap64 (bt a0_3 1), a0_3.extract 2 ((wrap64 (a0_2 - 2)) : Int).toNat, 3)))) else (none)) else (none)) else (none))) else (none)) else (none))) = some (r1, r2, r3, r4, r5, r6, r7) := h
 clear h
 by_cases c2 : a0_2 < 4
 ·rw [if_pos c2] at H
  have c2b0 : decide (a0_2 < 4) = true := decide_eq_true c2
  clear c2
  simp only [Option.some.injEq, Prod.mk.injEq] at H
  obtain ⟨rfl, rfl, rfl, rfl, rfl, rfl, rfl⟩ := H
  go_enter Tryd.func34, Tryd.ntmps34
  go_wp2_with (first | ((with_reducible refine gate_dst (N := 1) rfl ?_); refine box_event ?hg (N := 1) ?hd (cs := #[.int .i64 a0_0, .int .i64 a0_1, .int .i64 a0_2, .string a0_3]) (t := 62) ?hr ?_; (case hd => rfl); (case hg => rfl); (case hr => first | (go_simp; done) | (go_simp; rfl)); intro gb125 hg w3 hbox hb; have n0_ := Aside0.mk (below_step (hbw HB.out) hb); have n1_ := Aside0.mk (hbox); have n2_ := Aside0.mk ((by rw [hg]; exact (below_size (hbw HB.out)) : w.heap.size ≤ gb125)); have n3_ := Aside0.mk ((by rw [hg]; exact (below_size (hbw HB.out)) : w.heap.size ≤ gb125)); clear HB; have HB := n0_; have BK125 := n1_; have GW125 := n2_; have GE125 := n3_; clear n0_ n1_ n2_ n3_; clear hb hbox hg) | ((with_reducible refine gate_dst (N := 2) rfl ?_); refine box_event ?hg (N := 2) ?hd (cs := #[.int .i64 0, .int .i64 0, .int .i64 0, .int .i64 0, .int .i64 0, .string (⟨#[]⟩ : ByteArray), .int .i64 0]) (t := 32) ?hr ?_; (case hd => rfl); (case hg => rfl); (case hr => first | (go_simp; done) | (go_simp; rfl)); intro gb126 hg w4 hbox hb; have n0_ := Aside0.mk (blkb BK125.out hb); have n1_ := Aside0.mk (below_step (hbw HB.out) hb); have n2_ := Aside0.mk (hbox); have n3_ := Aside0.mk ((by rw [hg]; exact (below_size (hbw HB.out)) : w.heap.size ≤ gb126)); have n4_ := Aside0.mk ((by rw [hg]; exact (below_size (hbw HB.out)) : w.heap.size ≤ gb126)); have n5_ := Aside0.mk ((by rw [hg]; exact Nat.ne_of_lt (blkl BK125.out) : gb125 ≠ gb126)); have n6_ := Aside0.mk ((by rw [hg]; exact Nat.ne_of_gt (blkl BK125.out) : gb126 ≠ gb125)); clear BK125; clear HB; have BK125 := n0_; have HB := n1_; have BK126 := n2_; have GW126 := n3_; have GE126 := n4_; have NB125_126 := n5_; have NB126_125 := n6_; clear n0_ n1_ n2_ n3_ n4_ n5_ n6_; clear hb hbox hg; have hnb5 := NB125_126.out; have hnc5 := NB126_125.out; have hcz6_0 : w4.cell? ⟨gb125, 0, none⟩ = some (.int .i64 a0_0) := (blk_cell BK125.out 0).trans rfl; have hcz6_1 : w4.cell? ⟨gb125, 1, none⟩ = some (.int .i64 a0_1) := (blk_cell BK125.out 1).trans rfl; have hcz6_2 : w4.cell? ⟨gb125, 2, none⟩ = some (.int .i64 a0_2) := (blk_cell BK125.out 2).trans rfl; have hcz6_3 : w4.cell? ⟨gb125, 3, none⟩ = some (.string a0_3) := (blk_cell BK125.out 3).trans rfl; have hfz6_0 := blk_frozen BK125.out 0; have hfz6_1 := blk_frozen BK125.out 1; have hfz6_2 := blk_frozen BK125.out 2; have hfz6_3 := blk_frozen BK125.out 3) | ((with_reducible refine gate_dst (N := 3) rfl ?_); refine box_event ?hg (N := 3) ?hd (cs := #[.int .i64 0, .int .i64 0, .int .i64 0, .int .i64 0, .int .i64 0, .string (⟨#[]⟩ : ByteArray), .int .i64 0]) (t := 32) ?hr ?_; (case hd => rfl); (case hg => rfl); (case hr => first | (go_simp; done) | (go_simp; rfl)); intro gb127 hg w7 hbox hb; have n0_ := Aside0.mk (blkb BK125.out hb); have n1_ := Aside0.mk (blkb BK126.out hb); have n2_ := Aside0.mk (below_step (hbw HB.out) hb); have n3_ := Aside0.mk (hbox); have n4_ := Aside0.mk ((by rw [hg]; exact (below_size (hbw HB.out)) : w.heap.size ≤ gb127)); have n5_ := Aside0.mk ((by rw [hg]; exact (below_size (hbw HB.out)) : w.heap.size ≤ gb127)); have n6_ := Aside0.mk ((by rw [hg]; exact Nat.ne_of_lt (blkl BK125.out) : gb125 ≠ gb127)); have n7_ := Aside0.mk ((by rw [hg]; exact Nat.ne_of_gt (blkl BK125.out) : gb127 ≠ gb125)); have n8_ := Aside0.mk ((by rw [hg]; exact Nat.ne_of_lt (blkl BK126.out) : gb126 ≠ gb127)); have n9_ := Aside0.mk ((by rw [hg]; exact Nat.ne_of_gt (blkl BK126.out) : gb127 ≠ gb126)); clear BK125; clear BK126; clear HB; have BK125 := n0_; have BK126 := n1_; have HB := n2_; have BK127 := n3_; have GW127 := n4_; have GE127 := n5_; have NB125_127 := n6_; have NB127_125 := n7_; have NB126_127 := n8_; have NB127_126 := n9_; clear n0_ n1_ n2_ n3_ n4_ n5_ n6_ n7_ n8_ n9_; clear hb hbox hg; have hnb8 := NB127_125.out; have hnc8 := NB125_127.out; have hnb9 := NB127_126.out; have hnc9 := NB126_127.out; have hcz10_0 : w7.cell? ⟨gb127, 0, none⟩ = some (.int .i64 0) := (blk_cell BK127.out 0).trans rfl; have hcz10_1 : w7.cell? ⟨gb127, 1, none⟩ = some (.int .i64 0) := (blk_cell BK127.out 1).trans rfl; have hcz10_2 : w7.cell? ⟨gb127, 2, none⟩ = some (.int .i64 0) := (blk_cell BK127.out 2).trans rfl; have hcz10_3 : w7.cell? ⟨gb127, 3, none⟩ = some (.int .i64 0) := (blk_cell BK127.out 3).trans rfl; have hcz10_4 : w7.cell? ⟨gb127, 4, none⟩ = some (.int .i64 0) := (blk_cell BK127.out 4).trans rfl; have hcz10_5 : w7.cell? ⟨gb127, 5, none⟩ = some (.string (⟨#[]⟩ : ByteArray)) := (blk_cell BK127.out 5).trans rfl; have hcz10_6 : w7.cell? ⟨gb127, 6, none⟩ = some (.int .i64 0) := (blk_cell BK127.out 6).trans rfl; have hfz10_0 := blk_frozen BK127.out 0; have hfz10_1 := blk_frozen BK127.out 1; have hfz10_2 := blk_frozen BK127.out 2; have hfz10_3 := blk_frozen BK127.out 3; have hfz10_4 := blk_frozen BK127.out 4; have hfz10_5 := blk_frozen BK127.out 5; have hfz10_6 := blk_frozen BK127.out 6; have hcz11_0 : w7.cell? ⟨gb125, 0, none⟩ = some (.int .i64 a0_0) := (blk_cell BK125.out 0).trans rfl; have hcz11_1 : w7.cell? ⟨gb125, 1, none⟩ = some (.int .i64 a0_1) := (blk_cell BK125.out 1).trans rfl; have hcz11_2 : w7.cell? ⟨gb125, 2, none⟩ = some (.int .i64 a0_2) := (blk_cell BK125.out 2).trans rfl; have hcz11_3 : w7.cell? ⟨gb125, 3, none⟩ = some (.string a0_3) := (blk_cell BK125.out 3).trans rfl; have hfz11_0 := blk_frozen BK125.out 0; have hfz11_1 := blk_frozen BK125.out 1; have hfz11_2 := blk_frozen BK125.out 2; have hfz11_3 := blk_frozen BK125.out 3; have hcz12_0 : w7.cell? ⟨gb126, 0, none⟩ = some (.int .i64 0) := (blk_cell BK126.out 0).trans rfl; have hcz12_1 : w7.cell? ⟨gb126, 1, none⟩ = some (.int .i64 0) := (blk_cell BK126.out 1).trans rfl; have hcz12_2 : w7.cell? ⟨gb126, 2, none⟩ = some (.int .i64 0) := (blk_cell BK126.out 2).trans rfl; have hcz12_3 : w7.cell? ⟨gb126, 3, none⟩ = some (.int .i64 0) := (blk_cell BK126.out 3).trans rfl; have hcz12_4 : w7.cell? ⟨gb126, 4, none⟩ = some (.int .i64 0) := (blk_cell BK126.out 4).trans rfl; have hcz12_5 : w7.cell? ⟨gb126, 5, none⟩ = some (.string (⟨#[]⟩ : ByteArray)) := (blk_cell BK126.out 5).trans rfl; have hcz12_6 : w7.cell? ⟨gb126, 6, none⟩ = some (.int .i64 0) := (blk_cell BK126.out 6).trans rfl; have hfz12_0 := blk_frozen BK126.out 0; have hfz12_1 := blk_frozen BK126.out 1; have hfz12_2 := blk_frozen BK126.out 2; have hfz12_3 := blk_frozen BK126.out 3; have hfz12_4 := blk_frozen BK126.out 4; have hfz12_5 := blk_frozen BK126.out 5; have hfz12_6 := blk_frozen BK126.out 6))
  refine bodyPost_ret (results_cell_row rfl _ _ gb126 32 #[.int .i64 5, .int .i64 a0_0, .int .i64 a0_1, .int .i64 0, .int .i64 0, .string a0_3, .int .i64 8] (0, 0) _ rfl (by (with_reducible repeat (first | refine blk_drewN ?_ _ | refine blk_drew ?_ | refine blk_alloc ?_ _)); refine blk_put (cs := #[.int .i64 5, .int .i64 a0_0, .int .i64 a0_1, .int .i64 0, .int .i64 0, .string a0_3, .int .i64 0]) ?_ 6 _ rfl; (with_reducible repeat (first | refine blk_drewN ?_ _ | refine blk_drew ?_ | refine blk_alloc ?_ _)); refine blk_put (cs := #[.int .i64 5, .int .i64 a0_0, .int .i64 a0_1, .int .i64 0, .int .i64 0, .string (⟨#[]⟩ : ByteArray), .int .i64 0]) ?_ 5 _ rfl; (with_reducible repeat (first | refine blk_drewN ?_ _ | refine blk_drew ?_ | refine blk_alloc ?_ _)); refine blk_put (cs := #[.int .i64 5, .int .i64 a0_0, .int .i64 a0_1, .int .i64 0, .int .i64 0, .string (⟨#[]⟩ : ByteArray), .int .i64 0]) ?_ 4 _ rfl; (with_reducible repeat (first | refine blk_drewN ?_ _ | refine blk_drew ?_ | refine blk_alloc ?_ _)); refine blk_put (cs := #[.int .i64 5, .int .i64 a0_0, .int .i64 a0_1, .int .i64 0, .int .i64 0, .string (⟨#[]⟩ : ByteArray), .int .i64 0]) ?_ 3 _ rfl; (with_reducible repeat (first | refine blk_drewN ?_ _ | refine blk_drew ?_ | refine blk_alloc ?_ _)); refine blk_put (cs := #[.int .i64 5, .int .i64 a0_0, .int .i64 0, .int .i64 0, .int .i64 0, .string (⟨#[]⟩ : ByteArray), .int .i64 0]) ?_ 2 _ rfl; (with_reducible repeat (first | refine blk_drewN ?_ _ | refine blk_drew ?_ | refine blk_alloc ?_ _)); refine blk_put (cs := #[.int .i64 5, .int .i64 0, .int .i64 0, .int .i64 0, .int .i64 0, .string (⟨#[]⟩ : ByteArray), .int .i64 0]) ?_ 1 _ rfl; (with_reducible repeat (first | refine blk_drewN ?_ _ | refine blk_drew ?_ | refine blk_alloc ?_ _)); refine blk_put (cs := #[.int .i64 0, .int .i64 0, .int .i64 0, .int .i64 0, .int .i64 0, .string (⟨#[]⟩ : ByteArray), .int .i64 0]) ?_ 0 _ rfl; (with_reducible repeat (first | refine blk_drewN ?_ _ | refine blk_drew ?_ | refine blk_alloc ?_ _)); refine blk_far ?_ NB126_127.out _; (with_reducible repeat (first | refine blk_drewN ?_ _ | refine blk_drew ?_ | refine blk_alloc ?_ _)); refine blk_far ?_ NB126_127.out _; (with_reducible repeat (first | refine blk_drewN ?_ _ | refine blk_drew ?_ | refine blk_alloc ?_ _)); refine blk_far ?_ NB126_127.out _; (with_reducible repeat (first | refine blk_drewN ?_ _ | refine blk_drew ?_ | refine blk_alloc ?_ _)); refine blk_far ?_ NB126_127.out _; (with_reducible repeat (first | refine blk_drewN ?_ _ | refine blk_drew ?_ | refine blk_alloc ?_ _)); refine blk_far ?_ NB126_127.out _; (with_reducible repeat (first | refine blk_drewN ?_ _ | refine blk_drew ?_ | refine blk_alloc ?_ _)); refine blk_far ?_ NB126_127.out _; (with_reducible repeat (first | refine blk_drewN ?_ _ | refine blk_drew ?_ | refine blk_alloc ?_ _)); refine blk_far ?_ NB126_127.out _; (with_reducible repeat (first | refine blk_drewN ?_ _ | refine blk_drew ?_ | refine blk_alloc ?_ _)); exact BK126.out) Tryd.underlying32 rfl (by kernel_rfl)) rfl ?_
  exact ⟨by first | rfl | (simp [errW_none, errW_some] <;> rfl) | (simp [*, errW_none, errW_some] <;> rfl), by repeat (first | (with_reducible first | exact HB.out | apply below_alloc | apply pw_below_drewN | apply below_drew1 | refine below_set ?_ GE125.out | refine below_set ?_ GE126.out | refine below_set ?_ GE127.out) | exact HB.out)⟩
 ·rw [if_neg c2] at H
  have c2b0 : decide (a0_2 < 4) = false := decide_eq_false c2
  clear c2
  by_cases c13 : 0 < (a0_3.size : Int)
  ·rw [if_pos c13] at H
   have c13b0 : decide (0 < (a0_3.size : Int)) = true := decide_eq_true c13
   have c13b1 : decide (0 < a0_3.size) = true := decide_eq_true (by omega)
   clear c13
   by_cases c15 : 1 < (a0_3.size : Int)
   ·rw [if_pos c15] at H
    have c15b0 : decide (1 < (a0_3.size : Int)) = true := decide_eq_true c15
    have c15b1 : decide (1 < a0_3.size) = true := decide_eq_true (by omega)
    clear c15
    by_cases c17 : a0_2 > 4100
    ·rw [if_pos c17] at H
     have c17b0 : decide (4100 < a0_2) = true := decide_eq_true c17
     clear c17
     by_cases c18 : 2 ≤ 4098
     ·rw [if_pos c18] at H
      have c18b0 := eq_true c18
      have c18b1 : decide (2 ≤ 4098) = true := decide_eq_true c18
      clear c18
      by_cases c19 : 4098 ≤ (a0_3.size : Int)
      ·rw [if_pos c19] at H
       have c19b0 := eq_true c19
       have c19b1 : decide (4098 ≤ (a0_3.size : Int)) = true := decide_eq_true c19
       clear c19
       simp only [Option.some.injEq, Prod.mk.injEq] at H
       obtain ⟨rfl, rfl, rfl, rfl, rfl, rfl, rfl⟩ := H
       go_enter Tryd.func34, Tryd.ntmps34
       try go_wp2_with (first | ((with_reducible refine gate_dst (N := 1) rfl ?_); refine box_event ?hg (N := 1) ?hd (cs := #[.int .i64 a0_0, .int .i64 a0_1, .int .i64 a0_2, .string a0_3]) (t := 62) ?hr ?_; (case hd => rfl); (case hg => rfl); (case hr => first | (go_simp; done) | (go_simp; rfl)); intro gb125 hg w20 hbox hb; have n0_ := Aside0.mk (below_step (hbw HB.out) hb); have n1_ := Aside0.mk (hbox); have n2_ := Aside0.mk ((by rw [hg]; exact (below_size (hbw HB.out)) : w.heap.size ≤ gb125)); have n3_ := Aside0.mk ((by rw [hg]; exact (below_size (hbw HB.out)) : w.heap.size ≤ gb125)); clear HB; have HB := n0_; have BK125 := n1_; have GW125 := n2_; have GE125 := n3_; clear n0_ n1_ n2_ n3_; clear hb hbox hg) | ((with_reducible refine gate_dst (N := 2) rfl ?_); refine box_event ?hg (N := 2) ?hd (cs := #[.int .i64 0, .int .i64 0, .int .i64 0, .int .i64 0, .int .i64 0, .string (⟨#[]⟩ : ByteArray), .int .i64 0]) (t := 32) ?hr ?_; (case hd => rfl); (case hg => rfl); (case hr => first | (go_simp; done) | (go_simp; rfl)); intro gb126 hg w21 hbox hb; have n0_ := Aside0.mk (blkb BK125.out hb); have n1_ := Aside0.mk (below_step (hbw HB.out) hb); have n2_ := Aside0.mk (hbox); have n3_ := Aside0.mk ((by rw [hg]; exact (below_size (hbw HB.out)) : w.heap.size ≤ gb126)); have n4_ := Aside0.mk ((by rw [hg]; exact (below_size (hbw HB.out)) : w.heap.size ≤ gb126)); have n5_ := Aside0.mk ((by rw [hg]; exact Nat.ne_of_lt (blkl BK125.out) : gb125 ≠ gb126)); have n6_ := Aside0.mk ((by rw [hg]; exact Nat.ne_of_gt (blkl BK125.out) : gb126 ≠ gb125)); clear BK125; clear HB; have BK125 := n0_; have HB := n1_; have BK126 := n2_; have GW126 := n3_; have GE126 := n4_; have NB125_126 := n5_; have NB126_125 := n6_; clear n0_ n1_ n2_ n3_ n4_ n5_ n6_; clear hb hbox hg; have hnb22 := NB125_126.out; have hnc22 := NB126_125.out; have hcz23_0 : w21.cell? ⟨gb125, 0, none⟩ = some (.int .i64 a0_0) := (blk_cell BK125.out 0).trans rfl; have hcz23_1 : w21.cell? ⟨gb125, 1, none⟩ = some (.int .i64 a0_1) := (blk_cell BK125.out 1).trans rfl; have hcz23_2 : w21.cell? ⟨gb125, 2, none⟩ = some (.int .i64 a0_2) := (blk_cell BK125.out 2).trans rfl; have hcz23_3 : w21.cell? ⟨gb125, 3, none⟩ = some (.string a0_3) := (blk_cell BK125.out 3).trans rfl; have hfz23_0 := blk_frozen BK125.out 0; have hfz23_1 := blk_frozen BK125.out 1; have hfz23_2 := blk_frozen BK125.out 2; have hfz23_3 := blk_frozen BK125.out 3) | ((with_reducible refine gate_dst (N := 3) rfl ?_); refine box_event ?hg (N := 3) ?hd (cs := #[.int .i64 0, .int .i64 0, .int .i64 0, .int .i64 0, .int .i64 0, .string (⟨#[]⟩ : ByteArray), .int .i64 0]) (t := 32) ?hr ?_; (case hd => rfl); (case hg => rfl); (case hr => first | (go_simp; done) | (go_simp; rfl)); intro gb127 hg w24 hbox hb; have n0_ := Aside0.mk (blkb BK125.out hb); have n1_ := Aside0.mk (blkb BK126.out hb); have n2_ := Aside0.mk (below_step (hbw HB.out) hb); have n3_ := Aside0.mk (hbox); have n4_ := Aside0.mk ((by rw [hg]; exact (below_size (hbw HB.out)) : w.heap.size ≤ gb127)); have n5_ := Aside0.mk ((by rw [hg]; exact (below_size (hbw HB.out)) : w.heap.size ≤ gb127)); have n6_ := Aside0.mk ((by rw [hg]; exact Nat.ne_of_lt (blkl BK125.out) : gb125 ≠ gb127)); have n7_ := Aside0.mk ((by rw [hg]; exact Nat.ne_of_gt (blkl BK125.out) : gb127 ≠ gb125)); have n8_ := Aside0.mk ((by rw [hg]; exact Nat.ne_of_lt (blkl BK126.out) : gb126 ≠ gb127)); have n9_ := Aside0.mk ((by rw [hg]; exact Nat.ne_of_gt (blkl BK126.out) : gb127 ≠ gb126)); clear BK125; clear BK126; clear HB; have BK125 := n0_; have BK126 := n1_; have HB := n2_; have BK127 := n3_; have GW127 := n4_; have GE127 := n5_; have NB125_127 := n6_; have NB127_125 := n7_; have NB126_127 := n8_; have NB127_126 := n9_; clear n0_ n1_ n2_ n3_ n4_ n5_ n6_ n7_ n8_ n9_; clear hb hbox hg; have hnb25 := NB127_125.out; have hnc25 := NB125_127.out; have hnb26 := NB127_126.out; have hnc26 := NB126_127.out; have hcz27_0 : w24.cell? ⟨gb127, 0, none⟩ = some (.int .i64 0) := (blk_cell BK127.out 0).trans rfl; have hcz27_1 : w24.cell? ⟨gb127, 1, none⟩ = some (.int .i64 0) := (blk_cell BK127.out 1).trans rfl; have hcz27_2 : w24.cell? ⟨gb127, 2, none⟩ = some (.int .i64 0) := (blk_cell BK127.out 2).trans rfl; have hcz27_3 : w24.cell? ⟨gb127, 3, none⟩ = some (.int .i64 0) := (blk_cell BK127.out 3).trans rfl; have hcz27_4 : w24.cell? ⟨gb127, 4, none⟩ = some (.int .i64 0) := (blk_cell BK127.out 4).trans rfl; have hcz27_5 : w24.cell? ⟨gb127, 5, none⟩ = some (.string (⟨#[]⟩ : ByteArray)) := (blk_cell BK127.out 5).trans rfl; have hcz27_6 : w24.cell? ⟨gb127, 6, none⟩ = some (.int .i64 0) := (blk_cell BK127.out 6).trans rfl; have hfz27_0 := blk_frozen BK127.out 0; have hfz27_1 := blk_frozen BK127.out 1; have hfz27_2 := blk_frozen BK127.out 2; have hfz27_3 := blk_frozen BK127.out 3; have hfz27_4 := blk_frozen BK127.out 4; have hfz27_5 := blk_frozen BK127.out 5; have hfz27_6 := blk_frozen BK127.out 6; have hcz28_0 : w24.cell? ⟨gb125, 0, none⟩ = some (.int .i64 a0_0) := (blk_cell BK125.out 0).trans rfl; have hcz28_1 : w24.cell? ⟨gb125, 1, none⟩ = some (.int .i64 a0_1) := (blk_cell BK125.out 1).trans rfl; have hcz28_2 : w24.cell? ⟨gb125, 2, none⟩ = some (.int .i64 a0_2) := (blk_cell BK125.out 2).trans rfl; have hcz28_3 : w24.cell? ⟨gb125, 3, none⟩ = some (.string a0_3) := (blk_cell BK125.out 3).trans rfl; have hfz28_0 := blk_frozen BK125.out 0; have hfz28_1 := blk_frozen BK125.out 1; have hfz28_2 := blk_frozen BK125.out 2; have hfz28_3 := blk_frozen BK125.out 3))
       have n0_ : Aside0 ((((((((w24.setCell ⟨gb127, 0, none⟩ (.int .i64 5)).setCell ⟨gb127, 1, none⟩ (.int .i64 a0_0)).setCell ⟨gb127, 2, none⟩ (.int .i64 a0_1)).setCell ⟨gb127, 3, none⟩ (.int .i64 0)).setCell ⟨gb127, 4, none⟩ (.int .i64 0)).setCell ⟨gb127, 5, none⟩ (.string a0_3)).setCell ⟨gb127, 6, none⟩ (.int .i64 8)).heap[gb125]? = some (.cells #[.int .i64 a0_0, .int .i64 a0_1, .int .i64 a0_2, .string a0_3] 62 (0, 0))) := ⟨by (with_reducible repeat (first | refine blk_drewN ?_ _ | refine blk_drew ?_ | refine blk_alloc ?_ _)); refine blk_far ?_ NB125_127.out _; (with_reducible repeat (first | refine blk_drewN ?_ _ | refine blk_drew ?_ | refine blk_alloc ?_ _)); refine blk_far ?_ NB125_127.out _; (with_reducible repeat (first | refine blk_drewN ?_ _ | refine blk_drew ?_ | refine blk_alloc ?_ _)); refine blk_far ?_ NB125_127.out _; (with_reducible repeat (first | refine blk_drewN ?_ _ | refine blk_drew ?_ | refine blk_alloc ?_ _)); refine blk_far ?_ NB125_127.out _; (with_reducible repeat (first | refine blk_drewN ?_ _ | refine blk_drew ?_ | refine blk_alloc ?_ _)); refine blk_far ?_ NB125_127.out _; (with_reducible repeat (first | refine blk_drewN ?_ _ | refine blk_drew ?_ | refine blk_alloc ?_ _)); refine blk_far ?_ NB125_127.out _; (with_reducible repeat (first | refine blk_drewN ?_ _ | refine blk_drew ?_ | refine blk_alloc ?_ _)); refine blk_far ?_ NB125_127.out _; (with_reducible repeat (first | refine blk_drewN ?_ _ | refine blk_drew ?_ | refine blk_alloc ?_ _)); exact BK125.out⟩
       have n1_ : Aside0 ((((((((w24.setCell ⟨gb127, 0, none⟩ (.int .i64 5)).setCell ⟨gb127, 1, none⟩ (.int .i64 a0_0)).setCell ⟨gb127, 2, none⟩ (.int .i64 a0_1)).setCell ⟨gb127, 3, none⟩ (.int .i64 0)).setCell ⟨gb127, 4, none⟩ (.int .i64 0)).setCell ⟨gb127, 5, none⟩ (.string a0_3)).setCell ⟨gb127, 6, none⟩ (.int .i64 8)).heap[gb126]? = some (.cells #[.int .i64 0, .int .i64 0, .int .i64 0, .int .i64 0, .int .i64 0, .string (⟨#[]⟩ : ByteArray), .int .i64 0] 32 (0, 0))) := ⟨by (with_reducible repeat (first | refine blk_drewN ?_ _ | refine blk_drew ?_ | refine blk_alloc ?_ _)); refine blk_far ?_ NB126_127.out _; (with_reducible repeat (first | refine blk_drewN ?_ _ | refine blk_drew ?_ | refine blk_alloc ?_ _)); refine blk_far ?_ NB126_127.out _; (with_reducible repeat (first | refine blk_drewN ?_ _ | refine blk_drew ?_ | refine blk_alloc ?_ _)); refine blk_far ?_ NB126_127.out _; (with_reducible repeat (first | refine blk_drewN ?_ _ | refine blk_drew ?_ | refine blk_alloc ?_ _)); refine blk_far ?_ NB126_127.out _; (with_reducible repeat (first | refine blk_drewN ?_ _ | refine blk_drew ?_ | refine blk_alloc ?_ _)); refine blk_far ?_ NB126_127.out _; (with_reducible repeat (first | refine blk_drewN ?_ _ | refine blk_drew ?_ | refine blk_alloc ?_ _)); refine blk_far ?_ NB126_127.out _; (with_reducible repeat (first | refine blk_drewN ?_ _ | refine blk_drew ?_ | refine blk_alloc ?_ _)); refine blk_far ?_ NB126_127.out _; (with_reducible repeat (first | refine blk_drewN ?_ _ | refine blk_drew ?_ | refine blk_alloc ?_ _)); exact BK126.out⟩
       have n2_ : Aside0 ((((((((w24.setCell ⟨gb127, 0, none⟩ (.int .i64 5)).setCell ⟨gb127, 1, none⟩ (.int .i64 a0_0)).setCell ⟨gb127, 2, none⟩ (.int .i64 a0_1)).setCell ⟨gb127, 3, none⟩ (.int .i64 0)).setCell ⟨gb127, 4, none⟩ (.int .i64 0)).setCell ⟨gb127, 5, none⟩ (.string a0_3)).setCell ⟨gb127, 6, none⟩ (.int .i64 8)).heap[gb127]? = some (.cells #[.int .i64 5, .int .i64 a0_0, .int .i64 a0_1, .int .i64 0, .int .i64 0, .string a0_3, .int .i64 8] 32 (0, 0))) := ⟨by (with_reducible repeat (first | refine blk_drewN ?_ _ | refine blk_drew ?_ | refine blk_alloc ?_ _)); refine blk_put (cs := #[.int .i64 5, .int .i64 a0_0, .int .i64 a0_1, .int .i64 0, .int .i64 0, .string a0_3, .int .i64 0]) ?_ 6 _ rfl; (with_reducible repeat (first | refine blk_drewN ?_ _ | refine blk_drew ?_ | refine blk_alloc ?_ _)); refine blk_put (cs := #[.int .i64 5, .int .i64 a0_0, .int .i64 a0_1, .int .i64 0, .int .i64 0, .string (⟨#[]⟩ : ByteArray), .int .i64 0]) ?_ 5 _ rfl; (with_reducible repeat (first | refine blk_drewN ?_ _ | refine blk_drew ?_ | refine blk_alloc ?_ _)); refine blk_put (cs := #[.int .i64 5, .int .i64 a0_0, .int .i64 a0_1, .int .i64 0, .int .i64 0, .string (⟨#[]⟩ : ByteArray), .int .i64 0]) ?_ 4 _ rfl; (with_reducible repeat (first | refine blk_drewN ?_ _ | refine blk_drew ?_ | refine blk_alloc ?_ _)); refine blk_put (cs := #[.int .i64 5, .int .i64 a0_0, .int .i64 a0_1, .int .i64 0, .int .i64 0, .string (⟨#[]⟩ : ByteArray), .int .i64 0]) ?_ 3 _ rfl; (with_reducible repeat (first | refine blk_drewN ?_ _ | refine blk_drew ?_ | refine blk_alloc ?_ _)); refine blk_put (cs := #[.int .i64 5, .int .i64 a0_0, .int .i64 0, .int .i64 0, .int .i64 0, .string (⟨#[]⟩ : ByteArray), .int .i64 0]) ?_ 2 _ rfl; (with_reducible repeat (first | refine blk_drewN ?_ _ | refine blk_drew ?_ | refine blk_alloc ?_ _)); refine blk_put (cs := #[.int .i64 5, .int .i64 0, .int .i64 0, .int .i64 0, .int .i64 0, .string (⟨#[]⟩ : ByteArray), .int .i64 0]) ?_ 1 _ rfl; (with_reducible repeat (first | refine blk_drewN ?_ _ | refine blk_drew ?_ | refine blk_alloc ?_ _)); refine blk_put (cs := #[.int .i64 0, .int .i64 0, .int .i64 0, .int .i64 0, .int .i64 0, .string (⟨#[]⟩ : ByteArray), .int .i64 0]) ?_ 0 _ rfl; (with_reducible repeat (first | refine blk_drewN ?_ _ | refine blk_drew ?_ | refine blk_alloc ?_ _)); exact BK127.out⟩
       have n3_ : Aside0 (Below w.heap.size w (((((((w24.setCell ⟨gb127, 0, none⟩ (.int .i64 5)).setCell ⟨gb127, 1, none⟩ (.int .i64 a0_0)).setCell ⟨gb127, 2, none⟩ (.int .i64 a0_1)).setCell ⟨gb127, 3, none⟩ (.int .i64 0)).setCell ⟨gb127, 4, none⟩ (.int .i64 0)).setCell ⟨gb127, 5, none⟩ (.string a0_3)).setCell ⟨gb127, 6, none⟩ (.int .i64 8))) := ⟨by repeat (first | (with_reducible first | exact HB.out | apply below_alloc | apply pw_below_drewN | apply below_drew1 | refine below_set ?_ GE125.out | refine below_set ?_ GE126.out | refine below_set ?_ GE127.out) | exact HB.out)⟩
       (try clear BK125)
       (try clear BK126)
       (try clear BK127)
       (try clear HB)
       generalize (((((((w24.setCell ⟨gb127, 0, none⟩ (.int .i64 5)).setCell ⟨gb127, 1, none⟩ (.int .i64 a0_0)).setCell ⟨gb127, 2, none⟩ (.int .i64 a0_1)).setCell ⟨gb127, 3, none⟩ (.int .i64 0)).setCell ⟨gb127, 4, none⟩ (.int .i64 0)).setCell ⟨gb127, 5, none⟩ (.string a0_3)).setCell ⟨gb127, 6, none⟩ (.int .i64 8)) = w29 at n0_ n1_ n2_ n3_ ⊢
       have BK125 := n0_
       have BK126 := n1_
       have BK127 := n2_
       have HB := n3_
       clear n0_ n1_ n2_ n3_
       have n0_ := Aside0.mk (blk_drew BK125.out)
       have n1_ := Aside0.mk (blk_drew BK126.out)
       have n2_ := Aside0.mk (blk_drew BK127.out)
       have n3_ := Aside0.mk (below_drew1 HB.out)
       clear BK125
       clear BK126
       clear BK127
       clear HB
       have BK125 := n0_
       have BK126 := n1_
       have BK127 := n2_
       have HB := n3_
       clear n0_ n1_ n2_ n3_
       have p14 : 0 ≤ (0 : Int) := (by omega)
       have q14 : 0 < a0_3.size := (by have : (0 : Int) < (a0_3.size : Int) := of_decide_eq_true (by first | (with_reducible assumption) | assumption); omega)
       have hx14 : ∀ h : 0 < a0_3.size, ((a0_3[0]'h).toNat : Int) = bt a0_3 0 := bt_at a0_3 0
       clear p14
       have qi14 : (0 < (a0_3.size : Int)) = True := eq_true (of_decide_eq_true (by first | (with_reducible assumption) | assumption))
       replace q14 := eq_true q14
       have p16 : 0 ≤ (1 : Int) := (by omega)
       have q16 : 1 < a0_3.size := (by have : (1 : Int) < (a0_3.size : Int) := of_decide_eq_true (by first | (with_reducible assumption) | assumption); omega)
       have hx16 : ∀ h : 1 < a0_3.size, ((a0_3[1]'h).toNat : Int) = bt a0_3 1 := bt_at a0_3 1
       clear p16
       have qi16 : (1 < (a0_3.size : Int)) = True := eq_true (of_decide_eq_true (by first | (with_reducible assumption) | assumption))
       replace q16 := eq_true q16
       refine start_ (n := 12) (S := fun w' => w'.cell? ⟨gb125, 0, none⟩ = some (.int .i64 a0_0) ∧ w'.cell? ⟨gb125, 1, none⟩ = some (.int .i64 a0_1) ∧ w'.cell? ⟨gb125, 2, none⟩ = some (.int .i64 a0_2) ∧ w'.cell? ⟨gb125, 3, none⟩ = some (.string a0_3)) (ds := []) #[false, false, false, false, false, false, false, false, false, false, false, false] (by kernel_rfl) rfl rfl ⟨(blk_cell BK125.out 0).trans rfl, (blk_cell BK125.out 1).trans rfl, (blk_cell BK125.out 2).trans rfl, (blk_cell BK125.out 3).trans rfl⟩ (fun hHeld => ?_); refine with_tabW modbus_frame_complete.tab4 modbus_frame_complete.bits4 (fun HT_ HW_ => ?_)
       generalize w29.drew = w30 at BK125 BK126 BK127 HB hHeld ⊢
       refine pstep 0 (some 15) #[true, false, false, false, false, false, false, false, false, false, false, false] HT_.out ?_
       refine pstep 4 (some 19) #[true, false, false, false, true, false, false, false, false, false, false, false] HT_.out ?_
       refine take_ (i := 1) (N := some 16) (v := ?_) (a' := ?_) #[true, true, false, false, true, false, false, false, false, false, false, false] rfl rfl (take_ofW HT_.out HW_.out (by kernel_rfl)) (fun _ _ _ h => h) (Or.inl ⟨by rfl, ?_⟩) hHeld ?_ ?_
       rotate_left
       ·rintro w' ⟨s0, s1, s2, s3⟩
        go_simp
        with_reducible rfl
       rotate_left
       ·simp only [Act.put, nrm]
        rfl
       refine take_ (i := 2) (N := some 17) (v := ?_) (a' := ?_) #[true, true, true, false, true, false, false, false, false, false, false, false] rfl rfl (take_ofW HT_.out HW_.out (by kernel_rfl)) (fun _ _ _ h => h) (Or.inl ⟨by rfl, ?_⟩) hHeld ?_ ?_
       rotate_left
       ·rintro w' ⟨s0, s1, s2, s3⟩
        go_simp
        with_reducible rfl
       rotate_left
       ·simp only [Act.put, nrm]
        rfl
       refine pstep 3 (some 18) #[true, true, true, true, true, false, false, false, false, false, false, false] HT_.out ?_
       refine pstep 8 (some 23) #[true, true, true, true, true, false, false, false, true, false, false, false] HT_.out ?_
       refine take_ (i := 5) (N := some 20) (v := ?_) (a' := ?_) #[true, true, true, true, true, true, false, false, true, false, false, false] rfl rfl (take_ofW HT_.out HW_.out (by kernel_rfl)) (fun _ _ _ h => h) (Or.inl ⟨by rfl, ?_⟩) hHeld ?_ ?_
       rotate_left
       ·rintro w' ⟨s0, s1, s2, s3⟩
        go_simp
        with_reducible rfl
       rotate_left
       ·simp only [Act.put, nrm]
        rfl
       refine take_ (i := 6) (N := some 21) (v := ?_) (a' := ?_) #[true, true, true, true, true, true, true, false, true, false, false, false] rfl rfl (take_ofW HT_.out HW_.out (by kernel_rfl)) (fun _ _ _ h => h) (Or.inl ⟨by rfl, ?_⟩) hHeld ?_ ?_
       rotate_left
       ·rintro w' ⟨s0, s1, s2, s3⟩
        go_simp
        with_reducible rfl
       rotate_left
       ·simp only [Act.put, nrm]
        rfl
       refine pstep 7 (some 22) #[true, true, true, true, true, true, true, true, true, false, false, false] HT_.out ?_
       refine one_ (i := 9) (N := none) #[true, true, true, true, true, true, true, true, true, true, false, false] rfl rfl (one_of HT_.out (by kernel_rfl)) (by decide) (fun K hK => ?_)
       have hs31 : w30.cell? ⟨gb127, 3, none⟩ = some (.int .i64 0) := (blk_cell BK127.out 3).trans rfl
       have hfs31 := blk_frozen BK127.out 3
       have hns31_0 := NB125_127.out
       have hns31_1 := NB126_127.out
       have hms31_0 := NB127_125.out
       have hms31_1 := NB127_126.out
       refine skip_ (w1 := ?_) (by rfl) rfl ?_ ?_
       rotate_left
       ·go_simp
        rfl
       refine hK.out _ _ ⟨((cell_far (p := ⟨gb127, _, none⟩) NB125_127.out _).trans (hHeld.1)), ((cell_far (p := ⟨gb127, _, none⟩) NB125_127.out _).trans (hHeld.2.1)), ((cell_far (p := ⟨gb127, _, none⟩) NB125_127.out _).trans (hHeld.2.2.1)), ((cell_far (p := ⟨gb127, _, none⟩) NB125_127.out _).trans (hHeld.2.2.2))⟩ (fun hHeld => ?_)
       clear hK K
       refine pstep 10 (some 24) #[true, true, true, true, true, true, true, true, true, true, true, false] HT_.out ?_
       refine one_ (i := 11) (N := none) #[true, true, true, true, true, true, true, true, true, true, true, true] rfl rfl (one_of HT_.out (by kernel_rfl)) (by decide) (fun K hK => ?_)
       have hs32 : w30.cell? ⟨gb127, 4, none⟩ = some (.int .i64 0) := (blk_cell BK127.out 4).trans rfl
       have hfs32 := blk_frozen BK127.out 4
       have hns32_0 := NB125_127.out
       have hns32_1 := NB126_127.out
       have hms32_0 := NB127_125.out
       have hms32_1 := NB127_126.out
       refine skip_ (w1 := ?_) (by rfl) rfl ?_ ?_
       rotate_left
       ·go_simp
        rfl
       refine hK.out _ _ ⟨((cell_far (p := ⟨gb127, _, none⟩) NB125_127.out _).trans (hHeld.1)), ((cell_far (p := ⟨gb127, _, none⟩) NB125_127.out _).trans (hHeld.2.1)), ((cell_far (p := ⟨gb127, _, none⟩) NB125_127.out _).trans (hHeld.2.2.1)), ((cell_far (p := ⟨gb127, _, none⟩) NB125_127.out _).trans (hHeld.2.2.2))⟩ (fun hHeld => ?_)
       clear hK K
       refine done_ (done_of HT_.out (by kernel_rfl)) ?_
       have hcz33_0 : w30.cell? ⟨gb125, 0, none⟩ = some (.int .i64 a0_0) := (blk_cell BK125.out 0).trans rfl
       have hcz33_1 : w30.cell? ⟨gb125, 1, none⟩ = some (.int .i64 a0_1) := (blk_cell BK125.out 1).trans rfl
       have hcz33_2 : w30.cell? ⟨gb125, 2, none⟩ = some (.int .i64 a0_2) := (blk_cell BK125.out 2).trans rfl
       have hcz33_3 : w30.cell? ⟨gb125, 3, none⟩ = some (.string a0_3) := (blk_cell BK125.out 3).trans rfl
       have hfz33_0 := blk_frozen BK125.out 0
       have hfz33_1 := blk_frozen BK125.out 1
       have hfz33_2 := blk_frozen BK125.out 2
       have hfz33_3 := blk_frozen BK125.out 3
       have hcz34_0 : w30.cell? ⟨gb127, 0, none⟩ = some (.int .i64 5) := (blk_cell BK127.out 0).trans rfl
       have hcz34_1 : w30.cell? ⟨gb127, 1, none⟩ = some (.int .i64 a0_0) := (blk_cell BK127.out 1).trans rfl
       have hcz34_2 : w30.cell? ⟨gb127, 2, none⟩ = some (.int .i64 a0_1) := (blk_cell BK127.out 2).trans rfl
       have hcz34_3 : w30.cell? ⟨gb127, 3, none⟩ = some (.int .i64 0) := (blk_cell BK127.out 3).trans rfl
       have hcz34_4 : w30.cell? ⟨gb127, 4, none⟩ = some (.int .i64 0) := (blk_cell BK127.out 4).trans rfl
       have hcz34_5 : w30.cell? ⟨gb127, 5, none⟩ = some (.string a0_3) := (blk_cell BK127.out 5).trans rfl
       have hcz34_6 : w30.cell? ⟨gb127, 6, none⟩ = some (.int .i64 8) := (blk_cell BK127.out 6).trans rfl
       have hfz34_0 := blk_frozen BK127.out 0
       have hfz34_1 := blk_frozen BK127.out 1
       have hfz34_2 := blk_frozen BK127.out 2
       have hfz34_3 := blk_frozen BK127.out 3
       have hfz34_4 := blk_frozen BK127.out 4
       have hfz34_5 := blk_frozen BK127.out 5
       have hfz34_6 := blk_frozen BK127.out 6
       have hcz35_0 : w30.cell? ⟨gb126, 0, none⟩ = some (.int .i64 0) := (blk_cell BK126.out 0).trans rfl
       have hcz35_1 : w30.cell? ⟨gb126, 1, none⟩ = some (.int .i64 0) := (blk_cell BK126.out 1).trans rfl
       have hcz35_2 : w30.cell? ⟨gb126, 2, none⟩ = some (.int .i64 0) := (blk_cell BK126.out 2).trans rfl
       have hcz35_3 : w30.cell? ⟨gb126, 3, none⟩ = some (.int .i64 0) := (blk_cell BK126.out 3).trans rfl
       have hcz35_4 : w30.cell? ⟨gb126, 4, none⟩ = some (.int .i64 0) := (blk_cell BK126.out 4).trans rfl
       have hcz35_5 : w30.cell? ⟨gb126, 5, none⟩ = some (.string (⟨#[]⟩ : ByteArray)) := (blk_cell BK126.out 5).trans rfl
       have hcz35_6 : w30.cell? ⟨gb126, 6, none⟩ = some (.int .i64 0) := (blk_cell BK126.out 6).trans rfl
       have hfz35_0 := blk_frozen BK126.out 0
       have hfz35_1 := blk_frozen BK126.out 1
       have hfz35_2 := blk_frozen BK126.out 2
       have hfz35_3 := blk_frozen BK126.out 3
       have hfz35_4 := blk_frozen BK126.out 4
       have hfz35_5 := blk_frozen BK126.out 5
       have hfz35_6 := blk_frozen BK126.out 6
       try go_wp2
       refine bodyPost_ret (results_cell_row rfl _ _ gb126 32 #[.int .i64 5, .int .i64 a0_0, .int .i64 a0_1, .int .i64 (wrap64 (bt a0_3 0)), .int .i64 (wrap64 (bt a0_3 1)), .string (a0_3.extract 2 4098), .int .i64 8] (0, 0) _ rfl (by (with_reducible repeat (first | refine blk_drewN ?_ _ | refine blk_drew ?_ | refine blk_alloc ?_ _)); refine blk_put (cs := #[.int .i64 5, .int .i64 a0_0, .int .i64 a0_1, .int .i64 (wrap64 (bt a0_3 0)), .int .i64 (wrap64 (bt a0_3 1)), .string (a0_3.extract 2 4098), .int .i64 0]) ?_ 6 _ rfl; (with_reducible repeat (first | refine blk_drewN ?_ _ | refine blk_drew ?_ | refine blk_alloc ?_ _)); refine blk_put (cs := #[.int .i64 5, .int .i64 a0_0, .int .i64 a0_1, .int .i64 (wrap64 (bt a0_3 0)), .int .i64 (wrap64 (bt a0_3 1)), .string (⟨#[]⟩ : ByteArray), .int .i64 0]) ?_ 5 _ rfl; (with_reducible repeat (first | refine blk_drewN ?_ _ | refine blk_drew ?_ | refine blk_alloc ?_ _)); refine blk_put (cs := #[.int .i64 5, .int .i64 a0_0, .int .i64 a0_1, .int .i64 (wrap64 (bt a0_3 0)), .int .i64 0, .string (⟨#[]⟩ : ByteArray), .int .i64 0]) ?_ 4 _ rfl; (with_reducible repeat (first | refine blk_drewN ?_ _ | refine blk_drew ?_ | refine blk_alloc ?_ _)); refine blk_put (cs := #[.int .i64 5, .int .i64 a0_0, .int .i64 a0_1, .int .i64 0, .int .i64 0, .string (⟨#[]⟩ : ByteArray), .int .i64 0]) ?_ 3 _ rfl; (with_reducible repeat (first | refine blk_drewN ?_ _ | refine blk_drew ?_ | refine blk_alloc ?_ _)); refine blk_put (cs := #[.int .i64 5, .int .i64 a0_0, .int .i64 0, .int .i64 0, .int .i64 0, .string (⟨#[]⟩ : ByteArray), .int .i64 0]) ?_ 2 _ rfl; (with_reducible repeat (first | refine blk_drewN ?_ _ | refine blk_drew ?_ | refine blk_alloc ?_ _)); refine blk_put (cs := #[.int .i64 5, .int .i64 0, .int .i64 0, .int .i64 0, .int .i64 0, .string (⟨#[]⟩ : ByteArray), .int .i64 0]) ?_ 1 _ rfl; (with_reducible repeat (first | refine blk_drewN ?_ _ | refine blk_drew ?_ | refine blk_alloc ?_ _)); refine blk_put (cs := #[.int .i64 0, .int .i64 0, .int .i64 0, .int .i64 0, .int .i64 0, .string (⟨#[]⟩ : ByteArray), .int .i64 0]) ?_ 0 _ rfl; (with_reducible repeat (first | refine blk_drewN ?_ _ | refine blk_drew ?_ | refine blk_alloc ?_ _)); refine blk_far ?_ NB126_127.out _; (with_reducible repeat (first | refine blk_drewN ?_ _ | refine blk_drew ?_ | refine blk_alloc ?_ _)); refine blk_far ?_ NB126_127.out _; (with_reducible repeat (first | refine blk_drewN ?_ _ | refine blk_drew ?_ | refine blk_alloc ?_ _)); refine blk_far ?_ NB126_127.out _; (with_reducible repeat (first | refine blk_drewN ?_ _ | refine blk_drew ?_ | refine blk_alloc ?_ _)); exact BK126.out) Tryd.underlying32 rfl (by kernel_rfl)) rfl ?_
       exact ⟨by first | rfl | (simp [errW_none, errW_some] <;> rfl) | (simp [*, errW_none, errW_some] <;> rfl), by repeat (first | (with_reducible first | exact HB.out | apply below_alloc | apply pw_below_drewN | apply below_drew1 | refine below_set ?_ GE125.out | refine below_set ?_ GE126.out | refine below_set ?_ GE127.out) | exact HB.out)⟩
      ·rw [if_neg c19] at H
       exact absurd H (by simp)
     ·rw [if_neg c18] at H
      exact absurd H (by simp)
    ·rw [if_neg c17] at H
     have c17b0 : decide (4100 < a0_2) = false := decide_eq_false c17
     clear c17
     by_cases c36 : 2 ≤ (wrap64 (a0_2 - 2))
     ·rw [if_pos c36] at H
      have c36b0 := eq_true c36
      have c36b1 : decide (2 ≤ (wrap64 (a0_2 - 2))) = true := decide_eq_true c36
      clear c36
      by_cases c37 : (wrap64 (a0_2 - 2)) ≤ (a0_3.size : Int)
      ·rw [if_pos c37] at H
       have c37b0 := eq_true c37
       have c37b1 : decide ((wrap64 (a0_2 - 2)) ≤ (a0_3.size : Int)) = true := decide_eq_true c37
       clear c37
       obtain ⟨ji38, hji38⟩ : ∃ j_ : Int, (wrap64 (a0_2 - 2)) = j_ := ⟨_, rfl⟩
       replace H : (if 0 ≤ (ji38) then ((modbus_sum.f k (a0_3.extract 0 ((ji38) : Int).toNat)).bind fun t128 => (if t128.toList = (a0_3.extract ((ji38) : Int).toNat a0_3.size).toList then (some (5, a0_0, a0_1, wrap64 (bt a0_3 0), wrap64 (bt a0_3 1), a0_3.extract 2 ((ji38) : Int).toNat, 0)) else (some (5, a0_0, a0_1, wrap64 (bt a0_3 0), wrap64 (bt a0_3 1), a0_3.extract 2 ((ji38) : Int).toNat, 3)))) else (none)) = some (r1, r2, r3, r4, r5, r6, r7) := by first | (rw [hji38] at H; exact H) | (simp only [hji38] at H ⊢; exact H)
       (try rw [hji38] at c36b0)
       (try rw [hji38] at c36b1)
       (try rw [hji38] at c37b0)
       (try rw [hji38] at c37b1)
       have hji38w : (IntKind.i64.wrap (a0_2 - 2)) = ji38 := (i64_w _).trans hji38
       by_cases c39 : 0 ≤ (ji38)
       ·rw [if_pos c39] at H
        have c39b0 := eq_true c39
        have c39b1 : decide (0 ≤ (ji38)) = true := decide_eq_true c39
        clear c39
        have c40b0 := eq_true (of_decide_eq_true (by first | (with_reducible assumption) | assumption) : (ji38) ≤ (a0_3.size : Int))
        replace H := Option.bind_eq_some_iff.mp H
        obtain ⟨t128, A410, H⟩ := H
        replace H : (if t128.toList = (a0_3.extract ((ji38) : Int).toNat a0_3.size).toList then (some (5, a0_0, a0_1, wrap64 (bt a0_3 0), wrap64 (bt a0_3 1), a0_3.extract 2 ((ji38) : Int).toNat, 0)) else (some (5, a0_0, a0_1, wrap64 (bt a0_3 0), wrap64 (bt a0_3 1), a0_3.extract 2 ((ji38) : Int).toNat, 3))) = some (r1, r2, r3, r4, r5, r6, r7) := H
        have A41 := Aside0.mk A410
        clear A410
        have c42b0 := eq_true (of_decide_eq_true (by first | (with_reducible assumption) | assumption) : 0 ≤ (ji38))
        have c43b0 := eq_true (of_decide_eq_true (by first | (with_reducible assumption) | assumption) : (ji38) ≤ (a0_3.size : Int))
        by_cases c44 : t128.toList = (a0_3.extract ((ji38) : Int).toNat a0_3.size).toList
        ·rw [if_pos c44] at H
         have c44b0 : (t128.toList == (a0_3.extract ((ji38) : Int).toNat a0_3.size).toList) = true := beq_iff_eq.mpr c44
         have c44b1 : (t128.toList != (a0_3.extract ((ji38) : Int).toNat a0_3.size).toList) = false := bne_eq_false_iff_eq.mpr c44
         clear c44
         simp only [Option.some.injEq, Prod.mk.injEq] at H
         obtain ⟨rfl, rfl, rfl, rfl, rfl, rfl, rfl⟩ := H
         go_enter Tryd.func34, Tryd.ntmps34
         try go_wp2_with (first | ((with_reducible refine gate_dst (N := 1) rfl ?_); refine box_event ?hg (N := 1) ?hd (cs := #[.int .i64 a0_0, .int .i64 a0_1, .int .i64 a0_2, .string a0_3]) (t := 62) ?hr ?_; (case hd => rfl); (case hg => rfl); (case hr => first | (go_simp; done) | (go_simp; rfl)); intro gb125 hg w45 hbox hb; have n0_ := Aside0.mk (below_step (hbw HB.out) hb); have n1_ := Aside0.mk (hbox); have n2_ := Aside0.mk ((by rw [hg]; exact (below_size (hbw HB.out)) : w.heap.size ≤ gb125)); have n3_ := Aside0.mk ((by rw [hg]; exact (below_size (hbw HB.out)) : w.heap.size ≤ gb125)); clear HB; have HB := n0_; have BK125 := n1_; have GW125 := n2_; have GE125 := n3_; clear n0_ n1_ n2_ n3_; clear hb hbox hg) | ((with_reducible refine gate_dst (N := 2) rfl ?_); refine box_event ?hg (N := 2) ?hd (cs := #[.int .i64 0, .int .i64 0, .int .i64 0, .int .i64 0, .int .i64 0, .string (⟨#[]⟩ : ByteArray), .int .i64 0]) (t := 32) ?hr ?_; (case hd => rfl); (case hg => rfl); (case hr => first | (go_simp; done) | (go_simp; rfl)); intro gb126 hg w46 hbox hb; have n0_ := Aside0.mk (blkb BK125.out hb); have n1_ := Aside0.mk (below_step (hbw HB.out) hb); have n2_ := Aside0.mk (hbox); have n3_ := Aside0.mk ((by rw [hg]; exact (below_size (hbw HB.out)) : w.heap.size ≤ gb126)); have n4_ := Aside0.mk ((by rw [hg]; exact (below_size (hbw HB.out)) : w.heap.size ≤ gb126)); have n5_ := Aside0.mk ((by rw [hg]; exact Nat.ne_of_lt (blkl BK125.out) : gb125 ≠ gb126)); have n6_ := Aside0.mk ((by rw [hg]; exact Nat.ne_of_gt (blkl BK125.out) : gb126 ≠ gb125)); clear BK125; clear HB; have BK125 := n0_; have HB := n1_; have BK126 := n2_; have GW126 := n3_; have GE126 := n4_; have NB125_126 := n5_; have NB126_125 := n6_; clear n0_ n1_ n2_ n3_ n4_ n5_ n6_; clear hb hbox hg; have hnb47 := NB125_126.out; have hnc47 := NB126_125.out; have hcz48_0 : w46.cell? ⟨gb125, 0, none⟩ = some (.int .i64 a0_0) := (blk_cell BK125.out 0).trans rfl; have hcz48_1 : w46.cell? ⟨gb125, 1, none⟩ = some (.int .i64 a0_1) := (blk_cell BK125.out 1).trans rfl; have hcz48_2 : w46.cell? ⟨gb125, 2, none⟩ = some (.int .i64 a0_2) := (blk_cell BK125.out 2).trans rfl; have hcz48_3 : w46.cell? ⟨gb125, 3, none⟩ = some (.string a0_3) := (blk_cell BK125.out 3).trans rfl; have hfz48_0 := blk_frozen BK125.out 0; have hfz48_1 := blk_frozen BK125.out 1; have hfz48_2 := blk_frozen BK125.out 2; have hfz48_3 := blk_frozen BK125.out 3) | ((with_reducible refine gate_dst (N := 3) rfl ?_); refine box_event ?hg (N := 3) ?hd (cs := #[.int .i64 0, .int .i64 0, .int .i64 0, .int .i64 0, .int .i64 0, .string (⟨#[]⟩ : ByteArray), .int .i64 0]) (t := 32) ?hr ?_; (case hd => rfl); (case hg => rfl); (case hr => first | (go_simp; done) | (go_simp; rfl)); intro gb127 hg w49 hbox hb; have n0_ := Aside0.mk (blkb BK125.out hb); have n1_ := Aside0.mk (blkb BK126.out hb); have n2_ := Aside0.mk (below_step (hbw HB.out) hb); have n3_ := Aside0.mk (hbox); have n4_ := Aside0.mk ((by rw [hg]; exact (below_size (hbw HB.out)) : w.heap.size ≤ gb127)); have n5_ := Aside0.mk ((by rw [hg]; exact (below_size (hbw HB.out)) : w.heap.size ≤ gb127)); have n6_ := Aside0.mk ((by rw [hg]; exact Nat.ne_of_lt (blkl BK125.out) : gb125 ≠ gb127)); have n7_ := Aside0.mk ((by rw [hg]; exact Nat.ne_of_gt (blkl BK125.out) : gb127 ≠ gb125)); have n8_ := Aside0.mk ((by rw [hg]; exact Nat.ne_of_lt (blkl BK126.out) : gb126 ≠ gb127)); have n9_ := Aside0.mk ((by rw [hg]; exact Nat.ne_of_gt (blkl BK126.out) : gb127 ≠ gb126)); clear BK125; clear BK126; clear HB; have BK125 := n0_; have BK126 := n1_; have HB := n2_; have BK127 := n3_; have GW127 := n4_; have GE127 := n5_; have NB125_127 := n6_; have NB127_125 := n7_; have NB126_127 := n8_; have NB127_126 := n9_; clear n0_ n1_ n2_ n3_ n4_ n5_ n6_ n7_ n8_ n9_; clear hb hbox hg; have hnb50 := NB127_125.out; have hnc50 := NB125_127.out; have hnb51 := NB127_126.out; have hnc51 := NB126_127.out; have hcz52_0 : w49.cell? ⟨gb127, 0, none⟩ = some (.int .i64 0) := (blk_cell BK127.out 0).trans rfl; have hcz52_1 : w49.cell? ⟨gb127, 1, none⟩ = some (.int .i64 0) := (blk_cell BK127.out 1).trans rfl; have hcz52_2 : w49.cell? ⟨gb127, 2, none⟩ = some (.int .i64 0) := (blk_cell BK127.out 2).trans rfl; have hcz52_3 : w49.cell? ⟨gb127, 3, none⟩ = some (.int .i64 0) := (blk_cell BK127.out 3).trans rfl; have hcz52_4 : w49.cell? ⟨gb127, 4, none⟩ = some (.int .i64 0) := (blk_cell BK127.out 4).trans rfl; have hcz52_5 : w49.cell? ⟨gb127, 5, none⟩ = some (.string (⟨#[]⟩ : ByteArray)) := (blk_cell BK127.out 5).trans rfl; have hcz52_6 : w49.cell? ⟨gb127, 6, none⟩ = some (.int .i64 0) := (blk_cell BK127.out 6).trans rfl; have hfz52_0 := blk_frozen BK127.out 0; have hfz52_1 := blk_frozen BK127.out 1; have hfz52_2 := blk_frozen BK127.out 2; have hfz52_3 := blk_frozen BK127.out 3; have hfz52_4 := blk_frozen BK127.out 4; have hfz52_5 := blk_frozen BK127.out 5; have hfz52_6 := blk_frozen BK127.out 6; have hcz53_0 : w49.cell? ⟨gb125, 0, none⟩ = some (.int .i64 a0_0) := (blk_cell BK125.out 0).trans rfl; have hcz53_1 : w49.cell? ⟨gb125, 1, none⟩ = some (.int .i64 a0_1) := (blk_cell BK125.out 1).trans rfl; have hcz53_2 : w49.cell? ⟨gb125, 2, none⟩ = some (.int .i64 a0_2) := (blk_cell BK125.out 2).trans rfl; have hcz53_3 : w49.cell? ⟨gb125, 3, none⟩ = some (.string a0_3) := (blk_cell BK125.out 3).trans rfl; have hfz53_0 := blk_frozen BK125.out 0; have hfz53_1 := blk_frozen BK125.out 1; have hfz53_2 := blk_frozen BK125.out 2; have hfz53_3 := blk_frozen BK125.out 3))
         have n0_ : Aside0 ((((((((w49.setCell ⟨gb127, 0, none⟩ (.int .i64 5)).setCell ⟨gb127, 1, none⟩ (.int .i64 a0_0)).setCell ⟨gb127, 2, none⟩ (.int .i64 a0_1)).setCell ⟨gb127, 3, none⟩ (.int .i64 0)).setCell ⟨gb127, 4, none⟩ (.int .i64 0)).setCell ⟨gb127, 5, none⟩ (.string a0_3)).setCell ⟨gb127, 6, none⟩ (.int .i64 8)).heap[gb125]? = some (.cells #[.int .i64 a0_0, .int .i64 a0_1, .int .i64 a0_2, .string a0_3] 62 (0, 0))) := ⟨by (with_reducible repeat (first | refine blk_drewN ?_ _ | refine blk_drew ?_ | refine blk_alloc ?_ _)); refine blk_far ?_ NB125_127.out _; (with_reducible repeat (first | refine blk_drewN ?_ _ | refine blk_drew ?_ | refine blk_alloc ?_ _)); refine blk_far ?_ NB125_127.out _; (with_reducible repeat (first | refine blk_drewN ?_ _ | refine blk_drew ?_ | refine blk_alloc ?_ _)); refine blk_far ?_ NB125_127.out _; (with_reducible repeat (first | refine blk_drewN ?_ _ | refine blk_drew ?_ | refine blk_alloc ?_ _)); refine blk_far ?_ NB125_127.out _; (with_reducible repeat (first | refine blk_drewN ?_ _ | refine blk_drew ?_ | refine blk_alloc ?_ _)); refine blk_far ?_ NB125_127.out _; (with_reducible repeat (first | refine blk_drewN ?_ _ | refine blk_drew ?_ | refine blk_alloc ?_ _)); refine blk_far ?_ NB125_127.out _; (with_reducible repeat (first | refine blk_drewN ?_ _ | refine blk_drew ?_ | refine blk_alloc ?_ _)); refine blk_far ?_ NB125_127.out _; (with_reducible repeat (first | refine blk_drewN ?_ _ | refine blk_drew ?_ | refine blk_alloc ?_ _)); exact BK125.out⟩
         have n1_ : Aside0 ((((((((w49.setCell ⟨gb127, 0, none⟩ (.int .i64 5)).setCell ⟨gb127, 1, none⟩ (.int .i64 a0_0)).setCell ⟨gb127, 2, none⟩ (.int .i64 a0_1)).setCell ⟨gb127, 3, none⟩ (.int .i64 0)).setCell ⟨gb127, 4, none⟩ (.int .i64 0)).setCell ⟨gb127, 5, none⟩ (.string a0_3)).setCell ⟨gb127, 6, none⟩ (.int .i64 8)).heap[gb126]? = some (.cells #[.int .i64 0, .int .i64 0, .int .i64 0, .int .i64 0, .int .i64 0, .string (⟨#[]⟩ : ByteArray), .int .i64 0] 32 (0, 0))) := ⟨by (with_reducible repeat (first | refine blk_drewN ?_ _ | refine blk_drew ?_ | refine blk_alloc ?_ _)); refine blk_far ?_ NB126_127.out _; (with_reducible repeat (first | refine blk_drewN ?_ _ | refine blk_drew ?_ | refine blk_alloc ?_ _)); refine blk_far ?_ NB126_127.out _; (with_reducible repeat (first | refine blk_drewN ?_ _ | refine blk_drew ?_ | refine blk_alloc ?_ _)); refine blk_far ?_ NB126_127.out _; (with_reducible repeat (first | refine blk_drewN ?_ _ | refine blk_drew ?_ | refine blk_alloc ?_ _)); refine blk_far ?_ NB126_127.out _; (with_reducible repeat (first | refine blk_drewN ?_ _ | refine blk_drew ?_ | refine blk_alloc ?_ _)); refine blk_far ?_ NB126_127.out _; (with_reducible repeat (first | refine blk_drewN ?_ _ | refine blk_drew ?_ | refine blk_alloc ?_ _)); refine blk_far ?_ NB126_127.out _; (with_reducible repeat (first | refine blk_drewN ?_ _ | refine blk_drew ?_ | refine blk_alloc ?_ _)); refine blk_far ?_ NB126_127.out _; (with_reducible repeat (first | refine blk_drewN ?_ _ | refine blk_drew ?_ | refine blk_alloc ?_ _)); exact BK126.out⟩
         have n2_ : Aside0 ((((((((w49.setCell ⟨gb127, 0, none⟩ (.int .i64 5)).setCell ⟨gb127, 1, none⟩ (.int .i64 a0_0)).setCell ⟨gb127, 2, none⟩ (.int .i64 a0_1)).setCell ⟨gb127, 3, none⟩ (.int .i64 0)).setCell ⟨gb127, 4, none⟩ (.int .i64 0)).setCell ⟨gb127, 5, none⟩ (.string a0_3)).setCell ⟨gb127, 6, none⟩ (.int .i64 8)).heap[gb127]? = some (.cells #[.int .i64 5, .int .i64 a0_0, .int .i64 a0_1, .int .i64 0, .int .i64 0, .string a0_3, .int .i64 8] 32 (0, 0))) := ⟨by (with_reducible repeat (first | refine blk_drewN ?_ _ | refine blk_drew ?_ | refine blk_alloc ?_ _)); refine blk_put (cs := #[.int .i64 5, .int .i64 a0_0, .int .i64 a0_1, .int .i64 0, .int .i64 0, .string a0_3, .int .i64 0]) ?_ 6 _ rfl; (with_reducible repeat (first | refine blk_drewN ?_ _ | refine blk_drew ?_ | refine blk_alloc ?_ _)); refine blk_put (cs := #[.int .i64 5, .int .i64 a0_0, .int .i64 a0_1, .int .i64 0, .int .i64 0, .string (⟨#[]⟩ : ByteArray), .int .i64 0]) ?_ 5 _ rfl; (with_reducible repeat (first | refine blk_drewN ?_ _ | refine blk_drew ?_ | refine blk_alloc ?_ _)); refine blk_put (cs := #[.int .i64 5, .int .i64 a0_0, .int .i64 a0_1, .int .i64 0, .int .i64 0, .string (⟨#[]⟩ : ByteArray), .int .i64 0]) ?_ 4 _ rfl; (with_reducible repeat (first | refine blk_drewN ?_ _ | refine blk_drew ?_ | refine blk_alloc ?_ _)); refine blk_put (cs := #[.int .i64 5, .int .i64 a0_0, .int .i64 a0_1, .int .i64 0, .int .i64 0, .string (⟨#[]⟩ : ByteArray), .int .i64 0]) ?_ 3 _ rfl; (with_reducible repeat (first | refine blk_drewN ?_ _ | refine blk_drew ?_ | refine blk_alloc ?_ _)); refine blk_put (cs := #[.int .i64 5, .int .i64 a0_0, .int .i64 0, .int .i64 0, .int .i64 0, .string (⟨#[]⟩ : ByteArray), .int .i64 0]) ?_ 2 _ rfl; (with_reducible repeat (first | refine blk_drewN ?_ _ | refine blk_drew ?_ | refine blk_alloc ?_ _)); refine blk_put (cs := #[.int .i64 5, .int .i64 0, .int .i64 0, .int .i64 0, .int .i64 0, .string (⟨#[]⟩ : ByteArray), .int .i64 0]) ?_ 1 _ rfl; (with_reducible repeat (first | refine blk_drewN ?_ _ | refine blk_drew ?_ | refine blk_alloc ?_ _)); refine blk_put (cs := #[.int .i64 0, .int .i64 0, .int .i64 0, .int .i64 0, .int .i64 0, .string (⟨#[]⟩ : ByteArray), .int .i64 0]) ?_ 0 _ rfl; (with_reducible repeat (first | refine blk_drewN ?_ _ | refine blk_drew ?_ | refine blk_alloc ?_ _)); exact BK127.out⟩
         have n3_ : Aside0 (Below w.heap.size w (((((((w49.setCell ⟨gb127, 0, none⟩ (.int .i64 5)).setCell ⟨gb127, 1, none⟩ (.int .i64 a0_0)).setCell ⟨gb127, 2, none⟩ (.int .i64 a0_1)).setCell ⟨gb127, 3, none⟩ (.int .i64 0)).setCell ⟨gb127, 4, none⟩ (.int .i64 0)).setCell ⟨gb127, 5, none⟩ (.string a0_3)).setCell ⟨gb127, 6, none⟩ (.int .i64 8))) := ⟨by repeat (first | (with_reducible first | exact HB.out | apply below_alloc | apply pw_below_drewN | apply below_drew1 | refine below_set ?_ GE125.out | refine below_set ?_ GE126.out | refine below_set ?_ GE127.out) | exact HB.out)⟩
         (try clear BK125)
         (try clear BK126)
         (try clear BK127)
         (try clear HB)
         generalize (((((((w49.setCell ⟨gb127, 0, none⟩ (.int .i64 5)).setCell ⟨gb127, 1, none⟩ (.int .i64 a0_0)).setCell ⟨gb127, 2, none⟩ (.int .i64 a0_1)).setCell ⟨gb127, 3, none⟩ (.int .i64 0)).setCell ⟨gb127, 4, none⟩ (.int .i64 0)).setCell ⟨gb127, 5, none⟩ (.string a0_3)).setCell ⟨gb127, 6, none⟩ (.int .i64 8)) = w54 at n0_ n1_ n2_ n3_ ⊢
         have BK125 := n0_
         have BK126 := n1_
         have BK127 := n2_
         have HB := n3_
         clear n0_ n1_ n2_ n3_
         have n0_ := Aside0.mk (blk_drew BK125.out)
         have n1_ := Aside0.mk (blk_drew BK126.out)
         have n2_ := Aside0.mk (blk_drew BK127.out)
         have n3_ := Aside0.mk (below_drew1 HB.out)
         clear BK125
         clear BK126
         clear BK127
         clear HB
         have BK125 := n0_
         have BK126 := n1_
         have BK127 := n2_
         have HB := n3_
         clear n0_ n1_ n2_ n3_
         have p14 : 0 ≤ (0 : Int) := (by omega)
         have q14 : 0 < a0_3.size := (by have : (0 : Int) < (a0_3.size : Int) := of_decide_eq_true (by first | (with_reducible assumption) | assumption); omega)
         have hx14 : ∀ h : 0 < a0_3.size, ((a0_3[0]'h).toNat : Int) = bt a0_3 0 := bt_at a0_3 0
         clear p14
         have qi14 : (0 < (a0_3.size : Int)) = True := eq_true (of_decide_eq_true (by first | (with_reducible assumption) | assumption))
         replace q14 := eq_true q14
         have p16 : 0 ≤ (1 : Int) := (by omega)
         have q16 : 1 < a0_3.size := (by have : (1 : Int) < (a0_3.size : Int) := of_decide_eq_true (by first | (with_reducible assumption) | assumption); omega)
         have hx16 : ∀ h : 1 < a0_3.size, ((a0_3[1]'h).toNat : Int) = bt a0_3 1 := bt_at a0_3 1
         clear p16
         have qi16 : (1 < (a0_3.size : Int)) = True := eq_true (of_decide_eq_true (by first | (with_reducible assumption) | assumption))
         replace q16 := eq_true q16
         refine start_ (n := 12) (S := fun w' => w'.cell? ⟨gb125, 0, none⟩ = some (.int .i64 a0_0) ∧ w'.cell? ⟨gb125, 1, none⟩ = some (.int .i64 a0_1) ∧ w'.cell? ⟨gb125, 2, none⟩ = some (.int .i64 a0_2) ∧ w'.cell? ⟨gb125, 3, none⟩ = some (.string a0_3)) (ds := []) #[false, false, false, false, false, false, false, false, false, false, false, false] (by kernel_rfl) rfl rfl ⟨(blk_cell BK125.out 0).trans rfl, (blk_cell BK125.out 1).trans rfl, (blk_cell BK125.out 2).trans rfl, (blk_cell BK125.out 3).trans rfl⟩ (fun hHeld => ?_); refine with_tabW modbus_frame_complete.tab4 modbus_frame_complete.bits4 (fun HT_ HW_ => ?_)
         generalize w54.drew = w55 at BK125 BK126 BK127 HB hHeld ⊢
         refine pstep 0 (some 15) #[true, false, false, false, false, false, false, false, false, false, false, false] HT_.out ?_
         refine pstep 4 (some 19) #[true, false, false, false, true, false, false, false, false, false, false, false] HT_.out ?_
         refine take_ (i := 1) (N := some 16) (v := ?_) (a' := ?_) #[true, true, false, false, true, false, false, false, false, false, false, false] rfl rfl (take_ofW HT_.out HW_.out (by kernel_rfl)) (fun _ _ _ h => h) (Or.inl ⟨by rfl, ?_⟩) hHeld ?_ ?_
         rotate_left
         ·rintro w' ⟨s0, s1, s2, s3⟩
          go_simp
          with_reducible rfl
         rotate_left
         ·simp only [Act.put, nrm]
          rfl
         refine take_ (i := 2) (N := some 17) (v := ?_) (a' := ?_) #[true, true, true, false, true, false, false, false, false, false, false, false] rfl rfl (take_ofW HT_.out HW_.out (by kernel_rfl)) (fun _ _ _ h => h) (Or.inl ⟨by rfl, ?_⟩) hHeld ?_ ?_
         rotate_left
         ·rintro w' ⟨s0, s1, s2, s3⟩
          go_simp
          with_reducible rfl
         rotate_left
         ·simp only [Act.put, nrm]
          rfl
         refine pstep 3 (some 18) #[true, true, true, true, true, false, false, false, false, false, false, false] HT_.out ?_
         refine pstep 8 (some 23) #[true, true, true, true, true, false, false, false, true, false, false, false] HT_.out ?_
         refine take_ (i := 5) (N := some 20) (v := ?_) (a' := ?_) #[true, true, true, true, true, true, false, false, true, false, false, false] rfl rfl (take_ofW HT_.out HW_.out (by kernel_rfl)) (fun _ _ _ h => h) (Or.inl ⟨by rfl, ?_⟩) hHeld ?_ ?_
         rotate_left
         ·rintro w' ⟨s0, s1, s2, s3⟩
          go_simp
          with_reducible rfl
         rotate_left
         ·simp only [Act.put, nrm]
          rfl
         refine take_ (i := 6) (N := some 21) (v := ?_) (a' := ?_) #[true, true, true, true, true, true, true, false, true, false, false, false] rfl rfl (take_ofW HT_.out HW_.out (by kernel_rfl)) (fun _ _ _ h => h) (Or.inl ⟨by rfl, ?_⟩) hHeld ?_ ?_
         rotate_left
         ·rintro w' ⟨s0, s1, s2, s3⟩
          go_simp
          with_reducible rfl
         rotate_left
         ·simp only [Act.put, nrm]
          rfl
         refine pstep 7 (some 22) #[true, true, true, true, true, true, true, true, true, false, false, false] HT_.out ?_
         refine one_ (i := 9) (N := none) #[true, true, true, true, true, true, true, true, true, true, false, false] rfl rfl (one_of HT_.out (by kernel_rfl)) (by decide) (fun K hK => ?_)
         have hs56 : w55.cell? ⟨gb127, 3, none⟩ = some (.int .i64 0) := (blk_cell BK127.out 3).trans rfl
         have hfs56 := blk_frozen BK127.out 3
         have hns56_0 := NB125_127.out
         have hns56_1 := NB126_127.out
         have hms56_0 := NB127_125.out
         have hms56_1 := NB127_126.out
         refine skip_ (w1 := ?_) (by rfl) rfl ?_ ?_
         rotate_left
         ·go_simp
          rfl
         refine hK.out _ _ ⟨((cell_far (p := ⟨gb127, _, none⟩) NB125_127.out _).trans (hHeld.1)), ((cell_far (p := ⟨gb127, _, none⟩) NB125_127.out _).trans (hHeld.2.1)), ((cell_far (p := ⟨gb127, _, none⟩) NB125_127.out _).trans (hHeld.2.2.1)), ((cell_far (p := ⟨gb127, _, none⟩) NB125_127.out _).trans (hHeld.2.2.2))⟩ (fun hHeld => ?_)
         clear hK K
         refine pstep 10 (some 24) #[true, true, true, true, true, true, true, true, true, true, true, false] HT_.out ?_
         refine one_ (i := 11) (N := none) #[true, true, true, true, true, true, true, true, true, true, true, true] rfl rfl (one_of HT_.out (by kernel_rfl)) (by decide) (fun K hK => ?_)
         have hs57 : w55.cell? ⟨gb127, 4, none⟩ = some (.int .i64 0) := (blk_cell BK127.out 4).trans rfl
         have hfs57 := blk_frozen BK127.out 4
         have hns57_0 := NB125_127.out
         have hns57_1 := NB126_127.out
         have hms57_0 := NB127_125.out
         have hms57_1 := NB127_126.out
         refine skip_ (w1 := ?_) (by rfl) rfl ?_ ?_
         rotate_left
         ·go_simp
          rfl
         refine hK.out _ _ ⟨((cell_far (p := ⟨gb127, _, none⟩) NB125_127.out _).trans (hHeld.1)), ((cell_far (p := ⟨gb127, _, none⟩) NB125_127.out _).trans (hHeld.2.1)), ((cell_far (p := ⟨gb127, _, none⟩) NB125_127.out _).trans (hHeld.2.2.1)), ((cell_far (p := ⟨gb127, _, none⟩) NB125_127.out _).trans (hHeld.2.2.2))⟩ (fun hHeld => ?_)
         clear hK K
         refine done_ (done_of HT_.out (by kernel_rfl)) ?_
         have hcz58_0 : w55.cell? ⟨gb125, 0, none⟩ = some (.int .i64 a0_0) := (blk_cell BK125.out 0).trans rfl
         have hcz58_1 : w55.cell? ⟨gb125, 1, none⟩ = some (.int .i64 a0_1) := (blk_cell BK125.out 1).trans rfl
         have hcz58_2 : w55.cell? ⟨gb125, 2, none⟩ = some (.int .i64 a0_2) := (blk_cell BK125.out 2).trans rfl
         have hcz58_3 : w55.cell? ⟨gb125, 3, none⟩ = some (.string a0_3) := (blk_cell BK125.out 3).trans rfl
         have hfz58_0 := blk_frozen BK125.out 0
         have hfz58_1 := blk_frozen BK125.out 1
         have hfz58_2 := blk_frozen BK125.out 2
         have hfz58_3 := blk_frozen BK125.out 3
         have hcz59_0 : w55.cell? ⟨gb127, 0, none⟩ = some (.int .i64 5) := (blk_cell BK127.out 0).trans rfl
         have hcz59_1 : w55.cell? ⟨gb127, 1, none⟩ = some (.int .i64 a0_0) := (blk_cell BK127.out 1).trans rfl
         have hcz59_2 : w55.cell? ⟨gb127, 2, none⟩ = some (.int .i64 a0_1) := (blk_cell BK127.out 2).trans rfl
         have hcz59_3 : w55.cell? ⟨gb127, 3, none⟩ = some (.int .i64 0) := (blk_cell BK127.out 3).trans rfl
         have hcz59_4 : w55.cell? ⟨gb127, 4, none⟩ = some (.int .i64 0) := (blk_cell BK127.out 4).trans rfl
         have hcz59_5 : w55.cell? ⟨gb127, 5, none⟩ = some (.string a0_3) := (blk_cell BK127.out 5).trans rfl
         have hcz59_6 : w55.cell? ⟨gb127, 6, none⟩ = some (.int .i64 8) := (blk_cell BK127.out 6).trans rfl
         have hfz59_0 := blk_frozen BK127.out 0
         have hfz59_1 := blk_frozen BK127.out 1
         have hfz59_2 := blk_frozen BK127.out 2
         have hfz59_3 := blk_frozen BK127.out 3
         have hfz59_4 := blk_frozen BK127.out 4
         have hfz59_5 := blk_frozen BK127.out 5
         have hfz59_6 := blk_frozen BK127.out 6
         try go_wp2
         have n0_ : Aside0 (((((w55.setCell ⟨gb127, 3, none⟩ (.int .i64 (wrap64 (bt a0_3 0)))).setCell ⟨gb127, 4, none⟩ (.int .i64 (wrap64 (bt a0_3 1)))).setCell ⟨gb127, 5, none⟩ (.string (a0_3.extract 2 ((ji38) : Int).toNat))).setCell ⟨gb127, 6, none⟩ (.int .i64 0)).heap[gb125]? = some (.cells #[.int .i64 a0_0, .int .i64 a0_1, .int .i64 a0_2, .string a0_3] 62 (0, 0))) := ⟨by (with_reducible repeat (first | refine blk_drewN ?_ _ | refine blk_drew ?_ | refine blk_alloc ?_ _)); refine blk_far ?_ NB125_127.out _; (with_reducible repeat (first | refine blk_drewN ?_ _ | refine blk_drew ?_ | refine blk_alloc ?_ _)); refine blk_far ?_ NB125_127.out _; (with_reducible repeat (first | refine blk_drewN ?_ _ | refine blk_drew ?_ | refine blk_alloc ?_ _)); refine blk_far ?_ NB125_127.out _; (with_reducible repeat (first | refine blk_drewN ?_ _ | refine blk_drew ?_ | refine blk_alloc ?_ _)); refine blk_far ?_ NB125_127.out _; (with_reducible repeat (first | refine blk_drewN ?_ _ | refine blk_drew ?_ | refine blk_alloc ?_ _)); exact BK125.out⟩
         have n1_ : Aside0 (((((w55.setCell ⟨gb127, 3, none⟩ (.int .i64 (wrap64 (bt a0_3 0)))).setCell ⟨gb127, 4, none⟩ (.int .i64 (wrap64 (bt a0_3 1)))).setCell ⟨gb127, 5, none⟩ (.string (a0_3.extract 2 ((ji38) : Int).toNat))).setCell ⟨gb127, 6, none⟩ (.int .i64 0)).heap[gb126]? = some (.cells #[.int .i64 0, .int .i64 0, .int .i64 0, .int .i64 0, .int .i64 0, .string (⟨#[]⟩ : ByteArray), .int .i64 0] 32 (0, 0))) := ⟨by (with_reducible repeat (first | refine blk_drewN ?_ _ | refine blk_drew ?_ | refine blk_alloc ?_ _)); refine blk_far ?_ NB126_127.out _; (with_reducible repeat (first | refine blk_drewN ?_ _ | refine blk_drew ?_ | refine blk_alloc ?_ _)); refine blk_far ?_ NB126_127.out _; (with_reducible repeat (first | refine blk_drewN ?_ _ | refine blk_drew ?_ | refine blk_alloc ?_ _)); refine blk_far ?_ NB126_127.out _; (with_reducible repeat (first | refine blk_drewN ?_ _ | refine blk_drew ?_ | refine blk_alloc ?_ _)); refine blk_far ?_ NB126_127.out _; (with_reducible repeat (first | refine blk_drewN ?_ _ | refine blk_drew ?_ | refine blk_alloc ?_ _)); exact BK126.out⟩
         have n2_ : Aside0 (((((w55.setCell ⟨gb127, 3, none⟩ (.int .i64 (wrap64 (bt a0_3 0)))).setCell ⟨gb127, 4, none⟩ (.int .i64 (wrap64 (bt a0_3 1)))).setCell ⟨gb127, 5, none⟩ (.string (a0_3.extract 2 ((ji38) : Int).toNat))).setCell ⟨gb127, 6, none⟩ (.int .i64 0)).heap[gb127]? = some (.cells #[.int .i64 5, .int .i64 a0_0, .int .i64 a0_1, .int .i64 (wrap64 (bt a0_3 0)), .int .i64 (wrap64 (bt a0_3 1)), .string (a0_3.extract 2 ((ji38) : Int).toNat), .int .i64 0] 32 (0, 0))) := ⟨by (with_reducible repeat (first | refine blk_drewN ?_ _ | refine blk_drew ?_ | refine blk_alloc ?_ _)); refine blk_put (cs := #[.int .i64 5, .int .i64 a0_0, .int .i64 a0_1, .int .i64 (wrap64 (bt a0_3 0)), .int .i64 (wrap64 (bt a0_3 1)), .string (a0_3.extract 2 ((ji38) : Int).toNat), .int .i64 8]) ?_ 6 _ rfl; (with_reducible repeat (first | refine blk_drewN ?_ _ | refine blk_drew ?_ | refine blk_alloc ?_ _)); refine blk_put (cs := #[.int .i64 5, .int .i64 a0_0, .int .i64 a0_1, .int .i64 (wrap64 (bt a0_3 0)), .int .i64 (wrap64 (bt a0_3 1)), .string a0_3, .int .i64 8]) ?_ 5 _ rfl; (with_reducible repeat (first | refine blk_drewN ?_ _ | refine blk_drew ?_ | refine blk_alloc ?_ _)); refine blk_put (cs := #[.int .i64 5, .int .i64 a0_0, .int .i64 a0_1, .int .i64 (wrap64 (bt a0_3 0)), .int .i64 0, .string a0_3, .int .i64 8]) ?_ 4 _ rfl; (with_reducible repeat (first | refine blk_drewN ?_ _ | refine blk_drew ?_ | refine blk_alloc ?_ _)); refine blk_put (cs := #[.int .i64 5, .int .i64 a0_0, .int .i64 a0_1, .int .i64 0, .int .i64 0, .string a0_3, .int .i64 8]) ?_ 3 _ rfl; (with_reducible repeat (first | refine blk_drewN ?_ _ | refine blk_drew ?_ | refine blk_alloc ?_ _)); exact BK127.out⟩
         have n3_ : Aside0 (Below w.heap.size w ((((w55.setCell ⟨gb127, 3, none⟩ (.int .i64 (wrap64 (bt a0_3 0)))).setCell ⟨gb127, 4, none⟩ (.int .i64 (wrap64 (bt a0_3 1)))).setCell ⟨gb127, 5, none⟩ (.string (a0_3.extract 2 ((ji38) : Int).toNat))).setCell ⟨gb127, 6, none⟩ (.int .i64 0))) := ⟨by repeat (first | (with_reducible first | exact HB.out | apply below_alloc | apply pw_below_drewN | apply below_drew1 | refine below_set ?_ GE125.out | refine below_set ?_ GE126.out | refine below_set ?_ GE127.out) | exact HB.out)⟩
         (try clear BK125)
         (try clear BK126)
         (try clear BK127)
         (try clear HB)
         generalize ((((w55.setCell ⟨gb127, 3, none⟩ (.int .i64 (wrap64 (bt a0_3 0)))).setCell ⟨gb127, 4, none⟩ (.int .i64 (wrap64 (bt a0_3 1)))).setCell ⟨gb127, 5, none⟩ (.string (a0_3.extract 2 ((ji38) : Int).toNat))).setCell ⟨gb127, 6, none⟩ (.int .i64 0)) = w60 at n0_ n1_ n2_ n3_ ⊢
         have BK125 := n0_
         have BK126 := n1_
         have BK127 := n2_
         have HB := n3_
         clear n0_ n1_ n2_ n3_
         have n0_ := Aside0.mk (blk_drew BK125.out)
         have n1_ := Aside0.mk (blk_drew BK126.out)
         have n2_ := Aside0.mk (blk_drew BK127.out)
         have n3_ := Aside0.mk (below_drew1 HB.out)
         clear BK125
         clear BK126
         clear BK127
         clear HB
         have BK125 := n0_
         have BK126 := n1_
         have BK127 := n2_
         have HB := n3_
         clear n0_ n1_ n2_ n3_
         refine start_ (n := 14) (S := fun w' => w'.cell? ⟨gb125, 0, none⟩ = some (.int .i64 a0_0) ∧ w'.cell? ⟨gb125, 1, none⟩ = some (.int .i64 a0_1) ∧ w'.cell? ⟨gb125, 2, none⟩ = some (.int .i64 a0_2) ∧ w'.cell? ⟨gb125, 3, none⟩ = some (.string a0_3)) (ds := []) #[false, false, false, false, false, false, false, false, false, false, false, false, false, false] (by kernel_rfl) rfl rfl ⟨(blk_cell BK125.out 0).trans rfl, (blk_cell BK125.out 1).trans rfl, (blk_cell BK125.out 2).trans rfl, (blk_cell BK125.out 3).trans rfl⟩ (fun hHeld => ?_); refine with_tabW modbus_frame_complete.tab9 modbus_frame_complete.bits9 (fun HT_ HW_ => ?_)
         generalize w60.drew = w61 at BK125 BK126 BK127 HB hHeld ⊢
         refine pstep 0 (some 41) #[true, false, false, false, false, false, false, false, false, false, false, false, false, false] HT_.out ?_
         refine pstep 2 (some 43) #[true, false, true, false, false, false, false, false, false, false, false, false, false, false] HT_.out ?_
         refine pstep 7 (some 48) #[true, false, true, false, false, false, false, true, false, false, false, false, false, false] HT_.out ?_
         refine pstep 9 (some 50) #[true, false, true, false, false, false, false, true, false, true, false, false, false, false] HT_.out ?_
         refine take_ (i := 1) (N := some 42) (v := ?_) (a' := ?_) #[true, true, true, false, false, false, false, true, false, true, false, false, false, false] rfl rfl (take_ofW HT_.out HW_.out (by kernel_rfl)) (fun _ _ _ h => h) (Or.inl ⟨by rfl, ?_⟩) hHeld ?_ ?_
         rotate_left
         ·rintro w' ⟨s0, s1, s2, s3⟩
          go_simp
          with_reducible rfl
         rotate_left
         ·simp only [Act.put, nrm]
          rfl
         refine take_ (i := 3) (N := some 44) (v := ?_) (a' := ?_) #[true, true, true, true, false, false, false, true, false, true, false, false, false, false] rfl rfl (take_ofW HT_.out HW_.out (by kernel_rfl)) (fun _ _ _ h => h) (Or.inl ⟨by rfl, ?_⟩) hHeld ?_ ?_
         rotate_left
         ·rintro w' ⟨s0, s1, s2, s3⟩
          go_simp
          with_reducible rfl
         rotate_left
         ·simp only [Act.put, nrm]
          rfl
         refine pstep 4 (some 45) #[true, true, true, true, true, false, false, true, false, true, false, false, false, false] HT_.out ?_
         refine pstep 5 (some 46) #[true, true, true, true, true, true, false, true, false, true, false, false, false, false] HT_.out ?_
         refine take_ (i := 8) (N := some 49) (v := ?_) (a' := ?_) #[true, true, true, true, true, true, false, true, true, true, false, false, false, false] rfl rfl (take_ofW HT_.out HW_.out (by kernel_rfl)) (fun _ _ _ h => h) (Or.inl ⟨by rfl, ?_⟩) hHeld ?_ ?_
         rotate_left
         ·rintro w' ⟨s0, s1, s2, s3⟩
          go_simp
          with_reducible rfl
         rotate_left
         ·simp only [Act.put, nrm]
          rfl
         refine take_ (i := 10) (N := some 51) (v := ?_) (a' := ?_) #[true, true, true, true, true, true, false, true, true, true, true, false, false, false] rfl rfl (take_ofW HT_.out HW_.out (by kernel_rfl)) (fun _ _ _ h => h) (Or.inl ⟨by rfl, ?_⟩) hHeld ?_ ?_
         rotate_left
         ·rintro w' ⟨s0, s1, s2, s3⟩
          go_simp
          with_reducible rfl
         rotate_left
         ·simp only [Act.put, nrm]
          rfl
         refine pstep 11 (some 52) #[true, true, true, true, true, true, false, true, true, true, true, true, false, false] HT_.out ?_
         refine pstep 12 (some 53) #[true, true, true, true, true, true, false, true, true, true, true, true, true, false] HT_.out ?_
         refine one_ (i := 6) (N := some 47) #[true, true, true, true, true, true, true, true, true, true, true, true, true, false] rfl rfl (one_of HT_.out (by kernel_rfl)) (by decide) (fun K hK => ?_)
         refine goes_ Tryd.func37 (by kernel_rfl) rfl #[.string (a0_3.extract 0 ((ji38) : Int).toNat)] (by rfl) rfl rfl (by (try simp only [List.map_toArray, List.map_cons, List.map_nil]); first | done | (simp only [hji38]; rfl) | rfl | (simp only [List.length_drop, List.length_take]; rfl)) ?_
         with_reducible refine (modbus_sum.calls k (a0_3.extract 0 ((ji38) : Int).toNat) t128 _ ?side1 A41.out).mono ?_
         (case side1 => refine TabOk.below hT_ ?_; repeat (first | (with_reducible first | exact HB.out | apply below_alloc | apply pw_below_drewN | apply below_drew1 | refine below_set ?_ GE125.out | refine below_set ?_ GE126.out | refine below_set ?_ GE127.out) | exact HB.out))
         rintro e w62 ⟨rfl, hb⟩
         refine ⟨_, rfl, ?_⟩
         have n0_ := Aside0.mk (blkb BK125.out hb)
         have n1_ := Aside0.mk (blkb BK126.out hb)
         have n2_ := Aside0.mk (blkb BK127.out hb)
         have n3_ := Aside0.mk (below_step (hbw HB.out) hb)
         clear BK125
         clear BK126
         clear BK127
         clear HB
         have BK125 := n0_
         have BK126 := n1_
         have BK127 := n2_
         have HB := n3_
         clear n0_ n1_ n2_ n3_
         (try clear hb)
         (try clear hb2)
         (try clear hk)
         (try clear hi)
         refine hK.out _ _ ⟨(blk_cell BK125.out 0).trans rfl, (blk_cell BK125.out 1).trans rfl, (blk_cell BK125.out 2).trans rfl, (blk_cell BK125.out 3).trans rfl⟩ (fun hHeld => ?_)
         clear hK K
         refine norm_ (a' := ?_) ?_ ?_
         rotate_left
         ·show Act.put _ (some 47) _ = _
          simp only [Act.put, nrm]
          rfl
         refine pstep 13 (some 54) #[true, true, true, true, true, true, true, true, true, true, true, true, true, true] HT_.out ?_
         refine done_ (done_of HT_.out (by kernel_rfl)) ?_
         have hcz63_0 : w62.cell? ⟨gb127, 0, none⟩ = some (.int .i64 5) := (blk_cell BK127.out 0).trans rfl
         have hcz63_1 : w62.cell? ⟨gb127, 1, none⟩ = some (.int .i64 a0_0) := (blk_cell BK127.out 1).trans rfl
         have hcz63_2 : w62.cell? ⟨gb127, 2, none⟩ = some (.int .i64 a0_1) := (blk_cell BK127.out 2).trans rfl
         have hcz63_3 : w62.cell? ⟨gb127, 3, none⟩ = some (.int .i64 (wrap64 (bt a0_3 0))) := (blk_cell BK127.out 3).trans rfl
         have hcz63_4 : w62.cell? ⟨gb127, 4, none⟩ = some (.int .i64 (wrap64 (bt a0_3 1))) := (blk_cell BK127.out 4).trans rfl
         have hcz63_5 : w62.cell? ⟨gb127, 5, none⟩ = some (.string (a0_3.extract 2 ((ji38) : Int).toNat)) := (blk_cell BK127.out 5).trans rfl
         have hcz63_6 : w62.cell? ⟨gb127, 6, none⟩ = some (.int .i64 0) := (blk_cell BK127.out 6).trans rfl
         have hfz63_0 := blk_frozen BK127.out 0
         have hfz63_1 := blk_frozen BK127.out 1
         have hfz63_2 := blk_frozen BK127.out 2
         have hfz63_3 := blk_frozen BK127.out 3
         have hfz63_4 := blk_frozen BK127.out 4
         have hfz63_5 := blk_frozen BK127.out 5
         have hfz63_6 := blk_frozen BK127.out 6
         have hcz64_0 : w62.cell? ⟨gb126, 0, none⟩ = some (.int .i64 0) := (blk_cell BK126.out 0).trans rfl
         have hcz64_1 : w62.cell? ⟨gb126, 1, none⟩ = some (.int .i64 0) := (blk_cell BK126.out 1).trans rfl
         have hcz64_2 : w62.cell? ⟨gb126, 2, none⟩ = some (.int .i64 0) := (blk_cell BK126.out 2).trans rfl
         have hcz64_3 : w62.cell? ⟨gb126, 3, none⟩ = some (.int .i64 0) := (blk_cell BK126.out 3).trans rfl
         have hcz64_4 : w62.cell? ⟨gb126, 4, none⟩ = some (.int .i64 0) := (blk_cell BK126.out 4).trans rfl
         have hcz64_5 : w62.cell? ⟨gb126, 5, none⟩ = some (.string (⟨#[]⟩ : ByteArray)) := (blk_cell BK126.out 5).trans rfl
         have hcz64_6 : w62.cell? ⟨gb126, 6, none⟩ = some (.int .i64 0) := (blk_cell BK126.out 6).trans rfl
         have hfz64_0 := blk_frozen BK126.out 0
         have hfz64_1 := blk_frozen BK126.out 1
         have hfz64_2 := blk_frozen BK126.out 2
         have hfz64_3 := blk_frozen BK126.out 3
         have hfz64_4 := blk_frozen BK126.out 4
         have hfz64_5 := blk_frozen BK126.out 5
         have hfz64_6 := blk_frozen BK126.out 6
         try go_wp2
         refine bodyPost_ret (results_cell_row rfl _ _ gb126 32 #[.int .i64 5, .int .i64 a0_0, .int .i64 a0_1, .int .i64 (wrap64 (bt a0_3 0)), .int .i64 (wrap64 (bt a0_3 1)), .string (a0_3.extract 2 ((ji38) : Int).toNat), .int .i64 0] (0, 0) _ rfl (by (with_reducible repeat (first | refine blk_drewN ?_ _ | refine blk_drew ?_ | refine blk_alloc ?_ _)); refine blk_put (cs := #[.int .i64 5, .int .i64 a0_0, .int .i64 a0_1, .int .i64 (wrap64 (bt a0_3 0)), .int .i64 (wrap64 (bt a0_3 1)), .string (a0_3.extract 2 ((ji38) : Int).toNat), .int .i64 0]) ?_ 6 _ rfl; (with_reducible repeat (first | refine blk_drewN ?_ _ | refine blk_drew ?_ | refine blk_alloc ?_ _)); refine blk_put (cs := #[.int .i64 5, .int .i64 a0_0, .int .i64 a0_1, .int .i64 (wrap64 (bt a0_3 0)), .int .i64 (wrap64 (bt a0_3 1)), .string (⟨#[]⟩ : ByteArray), .int .i64 0]) ?_ 5 _ rfl; (with_reducible repeat (first | refine blk_drewN ?_ _ | refine blk_drew ?_ | refine blk_alloc ?_ _)); refine blk_put (cs := #[.int .i64 5, .int .i64 a0_0, .int .i64 a0_1, .int .i64 (wrap64 (bt a0_3 0)), .int .i64 0, .string (⟨#[]⟩ : ByteArray), .int .i64 0]) ?_ 4 _ rfl; (with_reducible repeat (first | refine blk_drewN ?_ _ | refine blk_drew ?_ | refine blk_alloc ?_ _)); refine blk_put (cs := #[.int .i64 5, .int .i64 a0_0, .int .i64 a0_1, .int .i64 0, .int .i64 0, .string (⟨#[]⟩ : ByteArray), .int .i64 0]) ?_ 3 _ rfl; (with_reducible repeat (first | refine blk_drewN ?_ _ | refine blk_drew ?_ | refine blk_alloc ?_ _)); refine blk_put (cs := #[.int .i64 5, .int .i64 a0_0, .int .i64 0, .int .i64 0, .int .i64 0, .string (⟨#[]⟩ : ByteArray), .int .i64 0]) ?_ 2 _ rfl; (with_reducible repeat (first | refine blk_drewN ?_ _ | refine blk_drew ?_ | refine blk_alloc ?_ _)); refine blk_put (cs := #[.int .i64 5, .int .i64 0, .int .i64 0, .int .i64 0, .int .i64 0, .string (⟨#[]⟩ : ByteArray), .int .i64 0]) ?_ 1 _ rfl; (with_reducible repeat (first | refine blk_drewN ?_ _ | refine blk_drew ?_ | refine blk_alloc ?_ _)); refine blk_put (cs := #[.int .i64 0, .int .i64 0, .int .i64 0, .int .i64 0, .int .i64 0, .string (⟨#[]⟩ : ByteArray), .int .i64 0]) ?_ 0 _ rfl; (with_reducible repeat (first | refine blk_drewN ?_ _ | refine blk_drew ?_ | refine blk_alloc ?_ _)); exact BK126.out) Tryd.underlying32 rfl (by kernel_rfl)) rfl ?_
         exact ⟨by first | rfl | (simp [errW_none, errW_some] <;> rfl) | (simp only [← hji38]; first | rfl | (simp [errW_none, errW_some] <;> rfl)) | (simp [*, errW_none, errW_some] <;> rfl), by repeat (first | (with_reducible first | exact HB.out | apply below_alloc | apply pw_below_drewN | apply below_drew1 | refine below_set ?_ GE125.out | refine below_set ?_ GE126.out | refine below_set ?_ GE127.out) | exact HB.out)⟩
        ·rw [if_neg c44] at H
         have c44b0 : (t128.toList == (a0_3.extract ((ji38) : Int).toNat a0_3.size).toList) = false := beq_eq_false_iff_ne.mpr c44
         have c44b1 : (t128.toList != (a0_3.extract ((ji38) : Int).toNat a0_3.size).toList) = true := bne_iff_ne.mpr c44
         simp only [Option.some.injEq, Prod.mk.injEq] at H
         obtain ⟨rfl, rfl, rfl, rfl, rfl, rfl, rfl⟩ := H
         go_enter Tryd.func34, Tryd.ntmps34
         try go_wp2_with (first | ((with_reducible refine gate_dst (N := 1) rfl ?_); refine box_event ?hg (N := 1) ?hd (cs := #[.int .i64 a0_0, .int .i64 a0_1, .int .i64 a0_2, .string a0_3]) (t := 62) ?hr ?_; (case hd => rfl); (case hg => rfl); (case hr => first | (go_simp; done) | (go_simp; rfl)); intro gb125 hg w65 hbox hb; have n0_ := Aside0.mk (below_step (hbw HB.out) hb); have n1_ := Aside0.mk (hbox); have n2_ := Aside0.mk ((by rw [hg]; exact (below_size (hbw HB.out)) : w.heap.size ≤ gb125)); have n3_ := Aside0.mk ((by rw [hg]; exact (below_size (hbw HB.out)) : w.heap.size ≤ gb125)); clear HB; have HB := n0_; have BK125 := n1_; have GW125 := n2_; have GE125 := n3_; clear n0_ n1_ n2_ n3_; clear hb hbox hg) | ((with_reducible refine gate_dst (N := 2) rfl ?_); refine box_event ?hg (N := 2) ?hd (cs := #[.int .i64 0, .int .i64 0, .int .i64 0, .int .i64 0, .int .i64 0, .string (⟨#[]⟩ : ByteArray), .int .i64 0]) (t := 32) ?hr ?_; (case hd => rfl); (case hg => rfl); (case hr => first | (go_simp; done) | (go_simp; rfl)); intro gb126 hg w66 hbox hb; have n0_ := Aside0.mk (blkb BK125.out hb); have n1_ := Aside0.mk (below_step (hbw HB.out) hb); have n2_ := Aside0.mk (hbox); have n3_ := Aside0.mk ((by rw [hg]; exact (below_size (hbw HB.out)) : w.heap.size ≤ gb126)); have n4_ := Aside0.mk ((by rw [hg]; exact (below_size (hbw HB.out)) : w.heap.size ≤ gb126)); have n5_ := Aside0.mk ((by rw [hg]; exact Nat.ne_of_lt (blkl BK125.out) : gb125 ≠ gb126)); have n6_ := Aside0.mk ((by rw [hg]; exact Nat.ne_of_gt (blkl BK125.out) : gb126 ≠ gb125)); clear BK125; clear HB; have BK125 := n0_; have HB := n1_; have BK126 := n2_; have GW126 := n3_; have GE126 := n4_; have NB125_126 := n5_; have NB126_125 := n6_; clear n0_ n1_ n2_ n3_ n4_ n5_ n6_; clear hb hbox hg; have hnb67 := NB125_126.out; have hnc67 := NB126_125.out; have hcz68_0 : w66.cell? ⟨gb125, 0, none⟩ = some (.int .i64 a0_0) := (blk_cell BK125.out 0).trans rfl; have hcz68_1 : w66.cell? ⟨gb125, 1, none⟩ = some (.int .i64 a0_1) := (blk_cell BK125.out 1).trans rfl; have hcz68_2 : w66.cell? ⟨gb125, 2, none⟩ = some (.int .i64 a0_2) := (blk_cell BK125.out 2).trans rfl; have hcz68_3 : w66.cell? ⟨gb125, 3, none⟩ = some (.string a0_3) := (blk_cell BK125.out 3).trans rfl; have hfz68_0 := blk_frozen BK125.out 0; have hfz68_1 := blk_frozen BK125.out 1; have hfz68_2 := blk_frozen BK125.out 2; have hfz68_3 := blk_frozen BK125.out 3) | ((with_reducible refine gate_dst (N := 3) rfl ?_); refine box_event ?hg (N := 3) ?hd (cs := #[.int .i64 0, .int .i64 0, .int .i64 0, .int .i64 0, .int .i64 0, .string (⟨#[]⟩ : ByteArray), .int .i64 0]) (t := 32) ?hr ?_; (case hd => rfl); (case hg => rfl); (case hr => first | (go_simp; done) | (go_simp; rfl)); intro gb127 hg w69 hbox hb; have n0_ := Aside0.mk (blkb BK125.out hb); have n1_ := Aside0.mk (blkb BK126.out hb); have n2_ := Aside0.mk (below_step (hbw HB.out) hb); have n3_ := Aside0.mk (hbox); have n4_ := Aside0.mk ((by rw [hg]; exact (below_size (hbw HB.out)) : w.heap.size ≤ gb127)); have n5_ := Aside0.mk ((by rw [hg]; exact (below_size (hbw HB.out)) : w.heap.size ≤ gb127)); have n6_ := Aside0.mk ((by rw [hg]; exact Nat.ne_of_lt (blkl BK125.out) : gb125 ≠ gb127)); have n7_ := Aside0.mk ((by rw [hg]; exact Nat.ne_of_gt (blkl BK125.out) : gb127 ≠ gb125)); have n8_ := Aside0.mk ((by rw [hg]; exact Nat.ne_of_lt (blkl BK126.out) : gb126 ≠ gb127)); have n9_ := Aside0.mk ((by rw [hg]; exact Nat.ne_of_gt (blkl BK126.out) : gb127 ≠ gb126)); clear BK125; clear BK126; clear HB; have BK125 := n0_; have BK126 := n1_; have HB := n2_; have BK127 := n3_; have GW127 := n4_; have GE127 := n5_; have NB125_127 := n6_; have NB127_125 := n7_; have NB126_127 := n8_; have NB127_126 := n9_; clear n0_ n1_ n2_ n3_ n4_ n5_ n6_ n7_ n8_ n9_; clear hb hbox hg; have hnb70 := NB127_125.out; have hnc70 := NB125_127.out; have hnb71 := NB127_126.out; have hnc71 := NB126_127.out; have hcz72_0 : w69.cell? ⟨gb127, 0, none⟩ = some (.int .i64 0) := (blk_cell BK127.out 0).trans rfl; have hcz72_1 : w69.cell? ⟨gb127, 1, none⟩ = some (.int .i64 0) := (blk_cell BK127.out 1).trans rfl; have hcz72_2 : w69.cell? ⟨gb127, 2, none⟩ = some (.int .i64 0) := (blk_cell BK127.out 2).trans rfl; have hcz72_3 : w69.cell? ⟨gb127, 3, none⟩ = some (.int .i64 0) := (blk_cell BK127.out 3).trans rfl; have hcz72_4 : w69.cell? ⟨gb127, 4, none⟩ = some (.int .i64 0) := (blk_cell BK127.out 4).trans rfl; have hcz72_5 : w69.cell? ⟨gb127, 5, none⟩ = some (.string (⟨#[]⟩ : ByteArray)) := (blk_cell BK127.out 5).trans rfl; have hcz72_6 : w69.cell? ⟨gb127, 6, none⟩ = some (.int .i64 0) := (blk_cell BK127.out 6).trans rfl; have hfz72_0 := blk_frozen BK127.out 0; have hfz72_1 := blk_frozen BK127.out 1; have hfz72_2 := blk_frozen BK127.out 2; have hfz72_3 := blk_frozen BK127.out 3; have hfz72_4 := blk_frozen BK127.out 4; have hfz72_5 := blk_frozen BK127.out 5; have hfz72_6 := blk_frozen BK127.out 6; have hcz73_0 : w69.cell? ⟨gb125, 0, none⟩ = some (.int .i64 a0_0) := (blk_cell BK125.out 0).trans rfl; have hcz73_1 : w69.cell? ⟨gb125, 1, none⟩ = some (.int .i64 a0_1) := (blk_cell BK125.out 1).trans rfl; have hcz73_2 : w69.cell? ⟨gb125, 2, none⟩ = some (.int .i64 a0_2) := (blk_cell BK125.out 2).trans rfl; have hcz73_3 : w69.cell? ⟨gb125, 3, none⟩ = some (.string a0_3) := (blk_cell BK125.out 3).trans rfl; have hfz73_0 := blk_frozen BK125.out 0; have hfz73_1 := blk_frozen BK125.out 1; have hfz73_2 := blk_frozen BK125.out 2; have hfz73_3 := blk_frozen BK125.out 3))
         have n0_ : Aside0 ((((((((w69.setCell ⟨gb127, 0, none⟩ (.int .i64 5)).setCell ⟨gb127, 1, none⟩ (.int .i64 a0_0)).setCell ⟨gb127, 2, none⟩ (.int .i64 a0_1)).setCell ⟨gb127, 3, none⟩ (.int .i64 0)).setCell ⟨gb127, 4, none⟩ (.int .i64 0)).setCell ⟨gb127, 5, none⟩ (.string a0_3)).setCell ⟨gb127, 6, none⟩ (.int .i64 8)).heap[gb125]? = some (.cells #[.int .i64 a0_0, .int .i64 a0_1, .int .i64 a0_2, .string a0_3] 62 (0, 0))) := ⟨by (with_reducible repeat (first | refine blk_drewN ?_ _ | refine blk_drew ?_ | refine blk_alloc ?_ _)); refine blk_far ?_ NB125_127.out _; (with_reducible repeat (first | refine blk_drewN ?_ _ | refine blk_drew ?_ | refine blk_alloc ?_ _)); refine blk_far ?_ NB125_127.out _; (with_reducible repeat (first | refine blk_drewN ?_ _ | refine blk_drew ?_ | refine blk_alloc ?_ _)); refine blk_far ?_ NB125_127.out _; (with_reducible repeat (first | refine blk_drewN ?_ _ | refine blk_drew ?_ | refine blk_alloc ?_ _)); refine blk_far ?_ NB125_127.out _; (with_reducible repeat (first | refine blk_drewN ?_ _ | refine blk_drew ?_ | refine blk_alloc ?_ _)); refine blk_far ?_ NB125_127.out _; (with_reducible repeat (first | refine blk_drewN ?_ _ | refine blk_drew ?_ | refine blk_alloc ?_ _)); refine blk_far ?_ NB125_127.out _; (with_reducible repeat (first | refine blk_drewN ?_ _ | refine blk_drew ?_ | refine blk_alloc ?_ _)); refine blk_far ?_ NB125_127.out _; (with_reducible repeat (first | refine blk_drewN ?_ _ | refine blk_drew ?_ | refine blk_alloc ?_ _)); exact BK125.out⟩
         have n1_ : Aside0 ((((((((w69.setCell ⟨gb127, 0, none⟩ (.int .i64 5)).setCell ⟨gb127, 1, none⟩ (.int .i64 a0_0)).setCell ⟨gb127, 2, none⟩ (.int .i64 a0_1)).setCell ⟨gb127, 3, none⟩ (.int .i64 0)).setCell ⟨gb127, 4, none⟩ (.int .i64 0)).setCell ⟨gb127, 5, none⟩ (.string a0_3)).setCell ⟨gb127, 6, none⟩ (.int .i64 8)).heap[gb126]? = some (.cells #[.int .i64 0, .int .i64 0, .int .i64 0, .int .i64 0, .int .i64 0, .string (⟨#[]⟩ : ByteArray), .int .i64 0] 32 (0, 0))) := ⟨by (with_reducible repeat (first | refine blk_drewN ?_ _ | refine blk_drew ?_ | refine blk_alloc ?_ _)); refine blk_far ?_ NB126_127.out _; (with_reducible repeat (first | refine blk_drewN ?_ _ | refine blk_drew ?_ | refine blk_alloc ?_ _)); refine blk_far ?_ NB126_127.out _; (with_reducible repeat (first | refine blk_drewN ?_ _ | refine blk_drew ?_ | refine blk_alloc ?_ _)); refine blk_far ?_ NB126_127.out _; (with_reducible repeat (first | refine blk_drewN ?_ _ | refine blk_drew ?_ | refine blk_alloc ?_ _)); refine blk_far ?_ NB126_127.out _; (with_reducible repeat (first | refine blk_drewN ?_ _ | refine blk_drew ?_ | refine blk_alloc ?_ _)); refine blk_far ?_ NB126_127.out _; (with_reducible repeat (first | refine blk_drewN ?_ _ | refine blk_drew ?_ | refine blk_alloc ?_ _)); refine blk_far ?_ NB126_127.out _; (with_reducible repeat (first | refine blk_drewN ?_ _ | refine blk_drew ?_ | refine blk_alloc ?_ _)); refine blk_far ?_ NB126_127.out _; (with_reducible repeat (first | refine blk_drewN ?_ _ | refine blk_drew ?_ | refine blk_alloc ?_ _)); exact BK126.out⟩
         have n2_ : Aside0 ((((((((w69.setCell ⟨gb127, 0, none⟩ (.int .i64 5)).setCell ⟨gb127, 1, none⟩ (.int .i64 a0_0)).setCell ⟨gb127, 2, none⟩ (.int .i64 a0_1)).setCell ⟨gb127, 3, none⟩ (.int .i64 0)).setCell ⟨gb127, 4, none⟩ (.int .i64 0)).setCell ⟨gb127, 5, none⟩ (.string a0_3)).setCell ⟨gb127, 6, none⟩ (.int .i64 8)).heap[gb127]? = some (.cells #[.int .i64 5, .int .i64 a0_0, .int .i64 a0_1, .int .i64 0, .int .i64 0, .string a0_3, .int .i64 8] 32 (0, 0))) := ⟨by (with_reducible repeat (first | refine blk_drewN ?_ _ | refine blk_drew ?_ | refine blk_alloc ?_ _)); refine blk_put (cs := #[.int .i64 5, .int .i64 a0_0, .int .i64 a0_1, .int .i64 0, .int .i64 0, .string a0_3, .int .i64 0]) ?_ 6 _ rfl; (with_reducible repeat (first | refine blk_drewN ?_ _ | refine blk_drew ?_ | refine blk_alloc ?_ _)); refine blk_put (cs := #[.int .i64 5, .int .i64 a0_0, .int .i64 a0_1, .int .i64 0, .int .i64 0, .string (⟨#[]⟩ : ByteArray), .int .i64 0]) ?_ 5 _ rfl; (with_reducible repeat (first | refine blk_drewN ?_ _ | refine blk_drew ?_ | refine blk_alloc ?_ _)); refine blk_put (cs := #[.int .i64 5, .int .i64 a0_0, .int .i64 a0_1, .int .i64 0, .int .i64 0, .string (⟨#[]⟩ : ByteArray), .int .i64 0]) ?_ 4 _ rfl; (with_reducible repeat (first | refine blk_drewN ?_ _ | refine blk_drew ?_ | refine blk_alloc ?_ _)); refine blk_put (cs := #[.int .i64 5, .int .i64 a0_0, .int .i64 a0_1, .int .i64 0, .int .i64 0, .string (⟨#[]⟩ : ByteArray), .int .i64 0]) ?_ 3 _ rfl; (with_reducible repeat (first | refine blk_drewN ?_ _ | refine blk_drew ?_ | refine blk_alloc ?_ _)); refine blk_put (cs := #[.int .i64 5, .int .i64 a0_0, .int .i64 0, .int .i64 0, .int .i64 0, .string (⟨#[]⟩ : ByteArray), .int .i64 0]) ?_ 2 _ rfl; (with_reducible repeat (first | refine blk_drewN ?_ _ | refine blk_drew ?_ | refine blk_alloc ?_ _)); refine blk_put (cs := #[.int .i64 5, .int .i64 0, .int .i64 0, .int .i64 0, .int .i64 0, .string (⟨#[]⟩ : ByteArray), .int .i64 0]) ?_ 1 _ rfl; (with_reducible repeat (first | refine blk_drewN ?_ _ | refine blk_drew ?_ | refine blk_alloc ?_ _)); refine blk_put (cs := #[.int .i64 0, .int .i64 0, .int .i64 0, .int .i64 0, .int .i64 0, .string (⟨#[]⟩ : ByteArray), .int .i64 0]) ?_ 0 _ rfl; (with_reducible repeat (first | refine blk_drewN ?_ _ | refine blk_drew ?_ | refine blk_alloc ?_ _)); exact BK127.out⟩
         have n3_ : Aside0 (Below w.heap.size w (((((((w69.setCell ⟨gb127, 0, none⟩ (.int .i64 5)).setCell ⟨gb127, 1, none⟩ (.int .i64 a0_0)).setCell ⟨gb127, 2, none⟩ (.int .i64 a0_1)).setCell ⟨gb127, 3, none⟩ (.int .i64 0)).setCell ⟨gb127, 4, none⟩ (.int .i64 0)).setCell ⟨gb127, 5, none⟩ (.string a0_3)).setCell ⟨gb127, 6, none⟩ (.int .i64 8))) := ⟨by repeat (first | (with_reducible first | exact HB.out | apply below_alloc | apply pw_below_drewN | apply below_drew1 | refine below_set ?_ GE125.out | refine below_set ?_ GE126.out | refine below_set ?_ GE127.out) | exact HB.out)⟩
         (try clear BK125)
         (try clear BK126)
         (try clear BK127)
         (try clear HB)
         generalize (((((((w69.setCell ⟨gb127, 0, none⟩ (.int .i64 5)).setCell ⟨gb127, 1, none⟩ (.int .i64 a0_0)).setCell ⟨gb127, 2, none⟩ (.int .i64 a0_1)).setCell ⟨gb127, 3, none⟩ (.int .i64 0)).setCell ⟨gb127, 4, none⟩ (.int .i64 0)).setCell ⟨gb127, 5, none⟩ (.string a0_3)).setCell ⟨gb127, 6, none⟩ (.int .i64 8)) = w74 at n0_ n1_ n2_ n3_ ⊢
         have BK125 := n0_
         have BK126 := n1_
         have BK127 := n2_
         have HB := n3_
         clear n0_ n1_ n2_ n3_
         have n0_ := Aside0.mk (blk_drew BK125.out)
         have n1_ := Aside0.mk (blk_drew BK126.out)
         have n2_ := Aside0.mk (blk_drew BK127.out)
         have n3_ := Aside0.mk (below_drew1 HB.out)
         clear BK125
         clear BK126
         clear BK127
         clear HB
         have BK125 := n0_
         have BK126 := n1_
         have BK127 := n2_
         have HB := n3_
         clear n0_ n1_ n2_ n3_
         have p14 : 0 ≤ (0 : Int) := (by omega)
         have q14 : 0 < a0_3.size := (by have : (0 : Int) < (a0_3.size : Int) := of_decide_eq_true (by first | (with_reducible assumption) | assumption); omega)
         have hx14 : ∀ h : 0 < a0_3.size, ((a0_3[0]'h).toNat : Int) = bt a0_3 0 := bt_at a0_3 0
         clear p14
         have qi14 : (0 < (a0_3.size : Int)) = True := eq_true (of_decide_eq_true (by first | (with_reducible assumption) | assumption))
         replace q14 := eq_true q14
         have p16 : 0 ≤ (1 : Int) := (by omega)
         have q16 : 1 < a0_3.size := (by have : (1 : Int) < (a0_3.size : Int) := of_decide_eq_true (by first | (with_reducible assumption) | assumption); omega)
         have hx16 : ∀ h : 1 < a0_3.size, ((a0_3[1]'h).toNat : Int) = bt a0_3 1 := bt_at a0_3 1
         clear p16
         have qi16 : (1 < (a0_3.size : Int)) = True := eq_true (of_decide_eq_true (by first | (with_reducible assumption) | assumption))
         replace q16 := eq_true q16
         refine start_ (n := 12) (S := fun w' => w'.cell? ⟨gb125, 0, none⟩ = some (.int .i64 a0_0) ∧ w'.cell? ⟨gb125, 1, none⟩ = some (.int .i64 a0_1) ∧ w'.cell? ⟨gb125, 2, none⟩ = some (.int .i64 a0_2) ∧ w'.cell? ⟨gb125, 3, none⟩ = some (.string a0_3)) (ds := []) #[false, false, false, false, false, false, false, false, false, false, false, false] (by kernel_rfl) rfl rfl ⟨(blk_cell BK125.out 0).trans rfl, (blk_cell BK125.out 1).trans rfl, (blk_cell BK125.out 2).trans rfl, (blk_cell BK125.out 3).trans rfl⟩ (fun hHeld => ?_); refine with_tabW modbus_frame_complete.tab4 modbus_frame_complete.bits4 (fun HT_ HW_ => ?_)
         generalize w74.drew = w75 at BK125 BK126 BK127 HB hHeld ⊢
         refine pstep 0 (some 15) #[true, false, false, false, false, false, false, false, false, false, false, false] HT_.out ?_
         refine pstep 4 (some 19) #[true, false, false, false, true, false, false, false, false, false, false, false] HT_.out ?_
         refine take_ (i := 1) (N := some 16) (v := ?_) (a' := ?_) #[true, true, false, false, true, false, false, false, false, false, false, false] rfl rfl (take_ofW HT_.out HW_.out (by kernel_rfl)) (fun _ _ _ h => h) (Or.inl ⟨by rfl, ?_⟩) hHeld ?_ ?_
         rotate_left
         ·rintro w' ⟨s0, s1, s2, s3⟩
          go_simp
          with_reducible rfl
         rotate_left
         ·simp only [Act.put, nrm]
          rfl
         refine take_ (i := 2) (N := some 17) (v := ?_) (a' := ?_) #[true, true, true, false, true, false, false, false, false, false, false, false] rfl rfl (take_ofW HT_.out HW_.out (by kernel_rfl)) (fun _ _ _ h => h) (Or.inl ⟨by rfl, ?_⟩) hHeld ?_ ?_
         rotate_left
         ·rintro w' ⟨s0, s1, s2, s3⟩
          go_simp
          with_reducible rfl
         rotate_left
         ·simp only [Act.put, nrm]
          rfl
         refine pstep 3 (some 18) #[true, true, true, true, true, false, false, false, false, false, false, false] HT_.out ?_
         refine pstep 8 (some 23) #[true, true, true, true, true, false, false, false, true, false, false, false] HT_.out ?_
         refine take_ (i := 5) (N := some 20) (v := ?_) (a' := ?_) #[true, true, true, true, true, true, false, false, true, false, false, false] rfl rfl (take_ofW HT_.out HW_.out (by kernel_rfl)) (fun _ _ _ h => h) (Or.inl ⟨by rfl, ?_⟩) hHeld ?_ ?_
         rotate_left
         ·rintro w' ⟨s0, s1, s2, s3⟩
          go_simp
          with_reducible rfl
         rotate_left
         ·simp only [Act.put, nrm]
          rfl
         refine take_ (i := 6) (N := some 21) (v := ?_) (a' := ?_) #[true, true, true, true, true, true, true, false, true, false, false, false] rfl rfl (take_ofW HT_.out HW_.out (by kernel_rfl)) (fun _ _ _ h => h) (Or.inl ⟨by rfl, ?_⟩) hHeld ?_ ?_
         rotate_left
         ·rintro w' ⟨s0, s1, s2, s3⟩
          go_simp
          with_reducible rfl
         rotate_left
         ·simp only [Act.put, nrm]
          rfl
         refine pstep 7 (some 22) #[true, true, true, true, true, true, true, true, true, false, false, false] HT_.out ?_
         refine one_ (i := 9) (N := none) #[true, true, true, true, true, true, true, true, true, true, false, false] rfl rfl (one_of HT_.out (by kernel_rfl)) (by decide) (fun K hK => ?_)
         have hs76 : w75.cell? ⟨gb127, 3, none⟩ = some (.int .i64 0) := (blk_cell BK127.out 3).trans rfl
         have hfs76 := blk_frozen BK127.out 3
         have hns76_0 := NB125_127.out
         have hns76_1 := NB126_127.out
         have hms76_0 := NB127_125.out
         have hms76_1 := NB127_126.out
         refine skip_ (w1 := ?_) (by rfl) rfl ?_ ?_
         rotate_left
         ·go_simp
          rfl
         refine hK.out _ _ ⟨((cell_far (p := ⟨gb127, _, none⟩) NB125_127.out _).trans (hHeld.1)), ((cell_far (p := ⟨gb127, _, none⟩) NB125_127.out _).trans (hHeld.2.1)), ((cell_far (p := ⟨gb127, _, none⟩) NB125_127.out _).trans (hHeld.2.2.1)), ((cell_far (p := ⟨gb127, _, none⟩) NB125_127.out _).trans (hHeld.2.2.2))⟩ (fun hHeld => ?_)
         clear hK K
         refine pstep 10 (some 24) #[true, true, true, true, true, true, true, true, true, true, true, false] HT_.out ?_
         refine one_ (i := 11) (N := none) #[true, true, true, true, true, true, true, true, true, true, true, true] rfl rfl (one_of HT_.out (by kernel_rfl)) (by decide) (fun K hK => ?_)
         have hs77 : w75.cell? ⟨gb127, 4, none⟩ = some (.int .i64 0) := (blk_cell BK127.out 4).trans rfl
         have hfs77 := blk_frozen BK127.out 4
         have hns77_0 := NB125_127.out
         have hns77_1 := NB126_127.out
         have hms77_0 := NB127_125.out
         have hms77_1 := NB127_126.out
         refine skip_ (w1 := ?_) (by rfl) rfl ?_ ?_
         rotate_left
         ·go_simp
          rfl
         refine hK.out _ _ ⟨((cell_far (p := ⟨gb127, _, none⟩) NB125_127.out _).trans (hHeld.1)), ((cell_far (p := ⟨gb127, _, none⟩) NB125_127.out _).trans (hHeld.2.1)), ((cell_far (p := ⟨gb127, _, none⟩) NB125_127.out _).trans (hHeld.2.2.1)), ((cell_far (p := ⟨gb127, _, none⟩) NB125_127.out _).trans (hHeld.2.2.2))⟩ (fun hHeld => ?_)
         clear hK K
         refine done_ (done_of HT_.out (by kernel_rfl)) ?_
         have hcz78_0 : w75.cell? ⟨gb125, 0, none⟩ = some (.int .i64 a0_0) := (blk_cell BK125.out 0).trans rfl
         have hcz78_1 : w75.cell? ⟨gb125, 1, none⟩ = some (.int .i64 a0_1) := (blk_cell BK125.out 1).trans rfl
         have hcz78_2 : w75.cell? ⟨gb125, 2, none⟩ = some (.int .i64 a0_2) := (blk_cell BK125.out 2).trans rfl
         have hcz78_3 : w75.cell? ⟨gb125, 3, none⟩ = some (.string a0_3) := (blk_cell BK125.out 3).trans rfl
         have hfz78_0 := blk_frozen BK125.out 0
         have hfz78_1 := blk_frozen BK125.out 1
         have hfz78_2 := blk_frozen BK125.out 2
         have hfz78_3 := blk_frozen BK125.out 3
         have hcz79_0 : w75.cell? ⟨gb127, 0, none⟩ = some (.int .i64 5) := (blk_cell BK127.out 0).trans rfl
         have hcz79_1 : w75.cell? ⟨gb127, 1, none⟩ = some (.int .i64 a0_0) := (blk_cell BK127.out 1).trans rfl
         have hcz79_2 : w75.cell? ⟨gb127, 2, none⟩ = some (.int .i64 a0_1) := (blk_cell BK127.out 2).trans rfl
         have hcz79_3 : w75.cell? ⟨gb127, 3, none⟩ = some (.int .i64 0) := (blk_cell BK127.out 3).trans rfl
         have hcz79_4 : w75.cell? ⟨gb127, 4, none⟩ = some (.int .i64 0) := (blk_cell BK127.out 4).trans rfl
         have hcz79_5 : w75.cell? ⟨gb127, 5, none⟩ = some (.string a0_3) := (blk_cell BK127.out 5).trans rfl
         have hcz79_6 : w75.cell? ⟨gb127, 6, none⟩ = some (.int .i64 8) := (blk_cell BK127.out 6).trans rfl
         have hfz79_0 := blk_frozen BK127.out 0
         have hfz79_1 := blk_frozen BK127.out 1
         have hfz79_2 := blk_frozen BK127.out 2
         have hfz79_3 := blk_frozen BK127.out 3
         have hfz79_4 := blk_frozen BK127.out 4
         have hfz79_5 := blk_frozen BK127.out 5
         have hfz79_6 := blk_frozen BK127.out 6
         try go_wp2
         have n0_ : Aside0 (((((w75.setCell ⟨gb127, 3, none⟩ (.int .i64 (wrap64 (bt a0_3 0)))).setCell ⟨gb127, 4, none⟩ (.int .i64 (wrap64 (bt a0_3 1)))).setCell ⟨gb127, 5, none⟩ (.string (a0_3.extract 2 ((ji38) : Int).toNat))).setCell ⟨gb127, 6, none⟩ (.int .i64 0)).heap[gb125]? = some (.cells #[.int .i64 a0_0, .int .i64 a0_1, .int .i64 a0_2, .string a0_3] 62 (0, 0))) := ⟨by (with_reducible repeat (first | refine blk_drewN ?_ _ | refine blk_drew ?_ | refine blk_alloc ?_ _)); refine blk_far ?_ NB125_127.out _; (with_reducible repeat (first | refine blk_drewN ?_ _ | refine blk_drew ?_ | refine blk_alloc ?_ _)); refine blk_far ?_ NB125_127.out _; (with_reducible repeat (first | refine blk_drewN ?_ _ | refine blk_drew ?_ | refine blk_alloc ?_ _)); refine blk_far ?_ NB125_127.out _; (with_reducible repeat (first | refine blk_drewN ?_ _ | refine blk_drew ?_ | refine blk_alloc ?_ _)); refine blk_far ?_ NB125_127.out _; (with_reducible repeat (first | refine blk_drewN ?_ _ | refine blk_drew ?_ | refine blk_alloc ?_ _)); exact BK125.out⟩
         have n1_ : Aside0 (((((w75.setCell ⟨gb127, 3, none⟩ (.int .i64 (wrap64 (bt a0_3 0)))).setCell ⟨gb127, 4, none⟩ (.int .i64 (wrap64 (bt a0_3 1)))).setCell ⟨gb127, 5, none⟩ (.string (a0_3.extract 2 ((ji38) : Int).toNat))).setCell ⟨gb127, 6, none⟩ (.int .i64 0)).heap[gb126]? = some (.cells #[.int .i64 0, .int .i64 0, .int .i64 0, .int .i64 0, .int .i64 0, .string (⟨#[]⟩ : ByteArray), .int .i64 0] 32 (0, 0))) := ⟨by (with_reducible repeat (first | refine blk_drewN ?_ _ | refine blk_drew ?_ | refine blk_alloc ?_ _)); refine blk_far ?_ NB126_127.out _; (with_reducible repeat (first | refine blk_drewN ?_ _ | refine blk_drew ?_ | refine blk_alloc ?_ _)); refine blk_far ?_ NB126_127.out _; (with_reducible repeat (first | refine blk_drewN ?_ _ | refine blk_drew ?_ | refine blk_alloc ?_ _)); refine blk_far ?_ NB126_127.out _; (with_reducible repeat (first | refine blk_drewN ?_ _ | refine blk_drew ?_ | refine blk_alloc ?_ _)); refine blk_far ?_ NB126_127.out _; (with_reducible repeat (first | refine blk_drewN ?_ _ | refine blk_drew ?_ | refine blk_alloc ?_ _)); exact BK126.out⟩
         have n2_ : Aside0 (((((w75.setCell ⟨gb127, 3, none⟩ (.int .i64 (wrap64 (bt a0_3 0)))).setCell ⟨gb127, 4, none⟩ (.int .i64 (wrap64 (bt a0_3 1)))).setCell ⟨gb127, 5, none⟩ (.string (a0_3.extract 2 ((ji38) : Int).toNat))).setCell ⟨gb127, 6, none⟩ (.int .i64 0)).heap[gb127]? = some (.cells #[.int .i64 5, .int .i64 a0_0, .int .i64 a0_1, .int .i64 (wrap64 (bt a0_3 0)), .int .i64 (wrap64 (bt a0_3 1)), .string (a0_3.extract 2 ((ji38) : Int).toNat), .int .i64 0] 32 (0, 0))) := ⟨by (with_reducible repeat (first | refine blk_drewN ?_ _ | refine blk_drew ?_ | refine blk_alloc ?_ _)); refine blk_put (cs := #[.int .i64 5, .int .i64 a0_0, .int .i64 a0_1, .int .i64 (wrap64 (bt a0_3 0)), .int .i64 (wrap64 (bt a0_3 1)), .string (a0_3.extract 2 ((ji38) : Int).toNat), .int .i64 8]) ?_ 6 _ rfl; (with_reducible repeat (first | refine blk_drewN ?_ _ | refine blk_drew ?_ | refine blk_alloc ?_ _)); refine blk_put (cs := #[.int .i64 5, .int .i64 a0_0, .int .i64 a0_1, .int .i64 (wrap64 (bt a0_3 0)), .int .i64 (wrap64 (bt a0_3 1)), .string a0_3, .int .i64 8]) ?_ 5 _ rfl; (with_reducible repeat (first | refine blk_drewN ?_ _ | refine blk_drew ?_ | refine blk_alloc ?_ _)); refine blk_put (cs := #[.int .i64 5, .int .i64 a0_0, .int .i64 a0_1, .int .i64 (wrap64 (bt a0_3 0)), .int .i64 0, .string a0_3, .int .i64 8]) ?_ 4 _ rfl; (with_reducible repeat (first | refine blk_drewN ?_ _ | refine blk_drew ?_ | refine blk_alloc ?_ _)); refine blk_put (cs := #[.int .i64 5, .int .i64 a0_0, .int .i64 a0_1, .int .i64 0, .int .i64 0, .string a0_3, .int .i64 8]) ?_ 3 _ rfl; (with_reducible repeat (first | refine blk_drewN ?_ _ | refine blk_drew ?_ | refine blk_alloc ?_ _)); exact BK127.out⟩
         have n3_ : Aside0 (Below w.heap.size w ((((w75.setCell ⟨gb127, 3, none⟩ (.int .i64 (wrap64 (bt a0_3 0)))).setCell ⟨gb127, 4, none⟩ (.int .i64 (wrap64 (bt a0_3 1)))).setCell ⟨gb127, 5, none⟩ (.string (a0_3.extract 2 ((ji38) : Int).toNat))).setCell ⟨gb127, 6, none⟩ (.int .i64 0))) := ⟨by repeat (first | (with_reducible first | exact HB.out | apply below_alloc | apply pw_below_drewN | apply below_drew1 | refine below_set ?_ GE125.out | refine below_set ?_ GE126.out | refine below_set ?_ GE127.out) | exact HB.out)⟩
         (try clear BK125)
         (try clear BK126)
         (try clear BK127)
         (try clear HB)
         generalize ((((w75.setCell ⟨gb127, 3, none⟩ (.int .i64 (wrap64 (bt a0_3 0)))).setCell ⟨gb127, 4, none⟩ (.int .i64 (wrap64 (bt a0_3 1)))).setCell ⟨gb127, 5, none⟩ (.string (a0_3.extract 2 ((ji38) : Int).toNat))).setCell ⟨gb127, 6, none⟩ (.int .i64 0)) = w80 at n0_ n1_ n2_ n3_ ⊢
         have BK125 := n0_
         have BK126 := n1_
         have BK127 := n2_
         have HB := n3_
         clear n0_ n1_ n2_ n3_
         have n0_ := Aside0.mk (blk_drew BK125.out)
         have n1_ := Aside0.mk (blk_drew BK126.out)
         have n2_ := Aside0.mk (blk_drew BK127.out)
         have n3_ := Aside0.mk (below_drew1 HB.out)
         clear BK125
         clear BK126
         clear BK127
         clear HB
         have BK125 := n0_
         have BK126 := n1_
         have BK127 := n2_
         have HB := n3_
         clear n0_ n1_ n2_ n3_
         refine start_ (n := 14) (S := fun w' => w'.cell? ⟨gb125, 0, none⟩ = some (.int .i64 a0_0) ∧ w'.cell? ⟨gb125, 1, none⟩ = some (.int .i64 a0_1) ∧ w'.cell? ⟨gb125, 2, none⟩ = some (.int .i64 a0_2) ∧ w'.cell? ⟨gb125, 3, none⟩ = some (.string a0_3)) (ds := []) #[false, false, false, false, false, false, false, false, false, false, false, false, false, false] (by kernel_rfl) rfl rfl ⟨(blk_cell BK125.out 0).trans rfl, (blk_cell BK125.out 1).trans rfl, (blk_cell BK125.out 2).trans rfl, (blk_cell BK125.out 3).trans rfl⟩ (fun hHeld => ?_); refine with_tabW modbus_frame_complete.tab9 modbus_frame_complete.bits9 (fun HT_ HW_ => ?_)
         generalize w80.drew = w81 at BK125 BK126 BK127 HB hHeld ⊢
         refine pstep 0 (some 41) #[true, false, false, false, false, false, false, false, false, false, false, false, false, false] HT_.out ?_
         refine pstep 2 (some 43) #[true, false, true, false, false, false, false, false, false, false, false, false, false, false] HT_.out ?_
         refine pstep 7 (some 48) #[true, false, true, false, false, false, false, true, false, false, false, false, false, false] HT_.out ?_
         refine pstep 9 (some 50) #[true, false, true, false, false, false, false, true, false, true, false, false, false, false] HT_.out ?_
         refine take_ (i := 1) (N := some 42) (v := ?_) (a' := ?_) #[true, true, true, false, false, false, false, true, false, true, false, false, false, false] rfl rfl (take_ofW HT_.out HW_.out (by kernel_rfl)) (fun _ _ _ h => h) (Or.inl ⟨by rfl, ?_⟩) hHeld ?_ ?_
         rotate_left
         ·rintro w' ⟨s0, s1, s2, s3⟩
          go_simp
          with_reducible rfl
         rotate_left
         ·simp only [Act.put, nrm]
          rfl
         refine take_ (i := 3) (N := some 44) (v := ?_) (a' := ?_) #[true, true, true, true, false, false, false, true, false, true, false, false, false, false] rfl rfl (take_ofW HT_.out HW_.out (by kernel_rfl)) (fun _ _ _ h => h) (Or.inl ⟨by rfl, ?_⟩) hHeld ?_ ?_
         rotate_left
         ·rintro w' ⟨s0, s1, s2, s3⟩
          go_simp
          with_reducible rfl
         rotate_left
         ·simp only [Act.put, nrm]
          rfl
         refine pstep 4 (some 45) #[true, true, true, true, true, false, false, true, false, true, false, false, false, false] HT_.out ?_
         refine pstep 5 (some 46) #[true, true, true, true, true, true, false, true, false, true, false, false, false, false] HT_.out ?_
         refine take_ (i := 8) (N := some 49) (v := ?_) (a' := ?_) #[true, true, true, true, true, true, false, true, true, true, false, false, false, false] rfl rfl (take_ofW HT_.out HW_.out (by kernel_rfl)) (fun _ _ _ h => h) (Or.inl ⟨by rfl, ?_⟩) hHeld ?_ ?_
         rotate_left
         ·rintro w' ⟨s0, s1, s2, s3⟩
          go_simp
          with_reducible rfl
         rotate_left
         ·simp only [Act.put, nrm]
          rfl
         refine take_ (i := 10) (N := some 51) (v := ?_) (a' := ?_) #[true, true, true, true, true, true, false, true, true, true, true, false, false, false] rfl rfl (take_ofW HT_.out HW_.out (by kernel_rfl)) (fun _ _ _ h => h) (Or.inl ⟨by rfl, ?_⟩) hHeld ?_ ?_
         rotate_left
         ·rintro w' ⟨s0, s1, s2, s3⟩
          go_simp
          with_reducible rfl
         rotate_left
         ·simp only [Act.put, nrm]
          rfl
         refine pstep 11 (some 52) #[true, true, true, true, true, true, false, true, true, true, true, true, false, false] HT_.out ?_
         refine pstep 12 (some 53) #[true, true, true, true, true, true, false, true, true, true, true, true, true, false] HT_.out ?_
         refine one_ (i := 6) (N := some 47) #[true, true, true, true, true, true, true, true, true, true, true, true, true, false] rfl rfl (one_of HT_.out (by kernel_rfl)) (by decide) (fun K hK => ?_)
         refine goes_ Tryd.func37 (by kernel_rfl) rfl #[.string (a0_3.extract 0 ((ji38) : Int).toNat)] (by rfl) rfl rfl (by (try simp only [List.map_toArray, List.map_cons, List.map_nil]); first | done | (simp only [hji38]; rfl) | rfl | (simp only [List.length_drop, List.length_take]; rfl)) ?_
         with_reducible refine (modbus_sum.calls k (a0_3.extract 0 ((ji38) : Int).toNat) t128 _ ?side1 A41.out).mono ?_
         (case side1 => refine TabOk.below hT_ ?_; repeat (first | (with_reducible first | exact HB.out | apply below_alloc | apply pw_below_drewN | apply below_drew1 | refine below_set ?_ GE125.out | refine below_set ?_ GE126.out | refine below_set ?_ GE127.out) | exact HB.out))
         rintro e w82 ⟨rfl, hb⟩
         refine ⟨_, rfl, ?_⟩
         have n0_ := Aside0.mk (blkb BK125.out hb)
         have n1_ := Aside0.mk (blkb BK126.out hb)
         have n2_ := Aside0.mk (blkb BK127.out hb)
         have n3_ := Aside0.mk (below_step (hbw HB.out) hb)
         clear BK125
         clear BK126
         clear BK127
         clear HB
         have BK125 := n0_
         have BK126 := n1_
         have BK127 := n2_
         have HB := n3_
         clear n0_ n1_ n2_ n3_
         (try clear hb)
         (try clear hb2)
         (try clear hk)
         (try clear hi)
         refine hK.out _ _ ⟨(blk_cell BK125.out 0).trans rfl, (blk_cell BK125.out 1).trans rfl, (blk_cell BK125.out 2).trans rfl, (blk_cell BK125.out 3).trans rfl⟩ (fun hHeld => ?_)
         clear hK K
         refine norm_ (a' := ?_) ?_ ?_
         rotate_left
         ·show Act.put _ (some 47) _ = _
          simp only [Act.put, nrm]
          rfl
         refine pstep 13 (some 54) #[true, true, true, true, true, true, true, true, true, true, true, true, true, true] HT_.out ?_
         refine done_ (done_of HT_.out (by kernel_rfl)) ?_
         have hcz83_0 : w82.cell? ⟨gb127, 0, none⟩ = some (.int .i64 5) := (blk_cell BK127.out 0).trans rfl
         have hcz83_1 : w82.cell? ⟨gb127, 1, none⟩ = some (.int .i64 a0_0) := (blk_cell BK127.out 1).trans rfl
         have hcz83_2 : w82.cell? ⟨gb127, 2, none⟩ = some (.int .i64 a0_1) := (blk_cell BK127.out 2).trans rfl
         have hcz83_3 : w82.cell? ⟨gb127, 3, none⟩ = some (.int .i64 (wrap64 (bt a0_3 0))) := (blk_cell BK127.out 3).trans rfl
         have hcz83_4 : w82.cell? ⟨gb127, 4, none⟩ = some (.int .i64 (wrap64 (bt a0_3 1))) := (blk_cell BK127.out 4).trans rfl
         have hcz83_5 : w82.cell? ⟨gb127, 5, none⟩ = some (.string (a0_3.extract 2 ((ji38) : Int).toNat)) := (blk_cell BK127.out 5).trans rfl
         have hcz83_6 : w82.cell? ⟨gb127, 6, none⟩ = some (.int .i64 0) := (blk_cell BK127.out 6).trans rfl
         have hfz83_0 := blk_frozen BK127.out 0
         have hfz83_1 := blk_frozen BK127.out 1
         have hfz83_2 := blk_frozen BK127.out 2
         have hfz83_3 := blk_frozen BK127.out 3
         have hfz83_4 := blk_frozen BK127.out 4
         have hfz83_5 := blk_frozen BK127.out 5
         have hfz83_6 := blk_frozen BK127.out 6
         have hcz84_0 : w82.cell? ⟨gb126, 0, none⟩ = some (.int .i64 0) := (blk_cell BK126.out 0).trans rfl
         have hcz84_1 : w82.cell? ⟨gb126, 1, none⟩ = some (.int .i64 0) := (blk_cell BK126.out 1).trans rfl
         have hcz84_2 : w82.cell? ⟨gb126, 2, none⟩ = some (.int .i64 0) := (blk_cell BK126.out 2).trans rfl
         have hcz84_3 : w82.cell? ⟨gb126, 3, none⟩ = some (.int .i64 0) := (blk_cell BK126.out 3).trans rfl
         have hcz84_4 : w82.cell? ⟨gb126, 4, none⟩ = some (.int .i64 0) := (blk_cell BK126.out 4).trans rfl
         have hcz84_5 : w82.cell? ⟨gb126, 5, none⟩ = some (.string (⟨#[]⟩ : ByteArray)) := (blk_cell BK126.out 5).trans rfl
         have hcz84_6 : w82.cell? ⟨gb126, 6, none⟩ = some (.int .i64 0) := (blk_cell BK126.out 6).trans rfl
         have hfz84_0 := blk_frozen BK126.out 0
         have hfz84_1 := blk_frozen BK126.out 1
         have hfz84_2 := blk_frozen BK126.out 2
         have hfz84_3 := blk_frozen BK126.out 3
         have hfz84_4 := blk_frozen BK126.out 4
         have hfz84_5 := blk_frozen BK126.out 5
         have hfz84_6 := blk_frozen BK126.out 6
         try go_wp2
         refine bodyPost_ret (results_cell_row rfl _ _ gb126 32 #[.int .i64 5, .int .i64 a0_0, .int .i64 a0_1, .int .i64 (wrap64 (bt a0_3 0)), .int .i64 (wrap64 (bt a0_3 1)), .string (a0_3.extract 2 ((ji38) : Int).toNat), .int .i64 3] (0, 0) _ rfl (by (with_reducible repeat (first | refine blk_drewN ?_ _ | refine blk_drew ?_ | refine blk_alloc ?_ _)); refine blk_put (cs := #[.int .i64 5, .int .i64 a0_0, .int .i64 a0_1, .int .i64 (wrap64 (bt a0_3 0)), .int .i64 (wrap64 (bt a0_3 1)), .string (a0_3.extract 2 ((ji38) : Int).toNat), .int .i64 0]) ?_ 6 _ rfl; (with_reducible repeat (first | refine blk_drewN ?_ _ | refine blk_drew ?_ | refine blk_alloc ?_ _)); refine blk_put (cs := #[.int .i64 5, .int .i64 a0_0, .int .i64 a0_1, .int .i64 (wrap64 (bt a0_3 0)), .int .i64 (wrap64 (bt a0_3 1)), .string (⟨#[]⟩ : ByteArray), .int .i64 0]) ?_ 5 _ rfl; (with_reducible repeat (first | refine blk_drewN ?_ _ | refine blk_drew ?_ | refine blk_alloc ?_ _)); refine blk_put (cs := #[.int .i64 5, .int .i64 a0_0, .int .i64 a0_1, .int .i64 (wrap64 (bt a0_3 0)), .int .i64 0, .string (⟨#[]⟩ : ByteArray), .int .i64 0]) ?_ 4 _ rfl; (with_reducible repeat (first | refine blk_drewN ?_ _ | refine blk_drew ?_ | refine blk_alloc ?_ _)); refine blk_put (cs := #[.int .i64 5, .int .i64 a0_0, .int .i64 a0_1, .int .i64 0, .int .i64 0, .string (⟨#[]⟩ : ByteArray), .int .i64 0]) ?_ 3 _ rfl; (with_reducible repeat (first | refine blk_drewN ?_ _ | refine blk_drew ?_ | refine blk_alloc ?_ _)); refine blk_put (cs := #[.int .i64 5, .int .i64 a0_0, .int .i64 0, .int .i64 0, .int .i64 0, .string (⟨#[]⟩ : ByteArray), .int .i64 0]) ?_ 2 _ rfl; (with_reducible repeat (first | refine blk_drewN ?_ _ | refine blk_drew ?_ | refine blk_alloc ?_ _)); refine blk_put (cs := #[.int .i64 5, .int .i64 0, .int .i64 0, .int .i64 0, .int .i64 0, .string (⟨#[]⟩ : ByteArray), .int .i64 0]) ?_ 1 _ rfl; (with_reducible repeat (first | refine blk_drewN ?_ _ | refine blk_drew ?_ | refine blk_alloc ?_ _)); refine blk_put (cs := #[.int .i64 0, .int .i64 0, .int .i64 0, .int .i64 0, .int .i64 0, .string (⟨#[]⟩ : ByteArray), .int .i64 0]) ?_ 0 _ rfl; (with_reducible repeat (first | refine blk_drewN ?_ _ | refine blk_drew ?_ | refine blk_alloc ?_ _)); refine blk_far ?_ NB126_127.out _; (with_reducible repeat (first | refine blk_drewN ?_ _ | refine blk_drew ?_ | refine blk_alloc ?_ _)); exact BK126.out) Tryd.underlying32 rfl (by kernel_rfl)) rfl ?_
         exact ⟨by first | rfl | (simp [errW_none, errW_some] <;> rfl) | (simp only [← hji38]; first | rfl | (simp [errW_none, errW_some] <;> rfl)) | (simp [*, errW_none, errW_some] <;> rfl), by repeat (first | (with_reducible first | exact HB.out | apply below_alloc | apply pw_below_drewN | apply below_drew1 | refine below_set ?_ GE125.out | refine below_set ?_ GE126.out | refine below_set ?_ GE127.out) | exact HB.out)⟩
       ·rw [if_neg c39] at H
        exact absurd H (by simp)
      ·rw [if_neg c37] at H
       exact absurd H (by simp)
     ·rw [if_neg c36] at H
      exact absurd H (by simp)
   ·rw [if_neg c15] at H
    exact absurd H (by simp)
  ·rw [if_neg c13] at H
   exact absurd H (by simp)

/-! ### modbus_finish: function 27 -/
def modbus_finish.f (k : Nat) (a0_0 : Int) (a0_1 : Int) (a0_2 : Int) (a0_3 : Int) (a0_4 : Int) (a0_5 : Int) (a0_6 : Int) (a0_7 : ByteArray) : Option ((List (S32))) := if a0_3 = 0 then (some ([] : List (S32))) else ((modbus_frame_complete.f k a0_2 a0_5 a0_3 a0_7).bind fun bt130 => (some (([(⟨bt130.1, bt130.2.1, bt130.2.2.1, bt130.2.2.2.1, bt130.2.2.2.2.1, bt130.2.2.2.2.2.1, bt130.2.2.2.2.2.2⟩ : S32)] : List (S32)))))
theorem modbus_finish.mono : ∀ a0 a1 a2 a3 a4 a5 a6 a7 k, LeO (modbus_finish.f k a0 a1 a2 a3 a4 a5 a6 a7) (modbus_finish.f (k + 1) a0 a1 a2 a3 a4 a5 a6 a7) := by
 intro a0 a1 a2 a3 a4 a5 a6 a7 k
 unfold modbus_finish.f
 repeat' first
   | (with_reducible exact modbus_frame_complete.mono _ _ _ _ _)
   | (with_reducible exact LeO.refl _)
   | (with_reducible exact LeO.none _)
   | (with_reducible refine LeO.ite ?_ ?_)
   | (with_reducible refine LeO.bind ?_ (fun _ => ?_))
   | exact modbus_frame_complete.mono _ _ _ _ _
   | exact LeO.none _
   | refine LeO.ite ?_ ?_
   | refine LeO.bind ?_ (fun _ => ?_)
set_option maxHeartbeats 8000000 in
set_option maxRecDepth 100000 in
theorem modbus_finish.calls (k : Nat) (a0_0 : Int) (a0_1 : Int) (a0_2 : Int) (a0_3 : Int) (a0_4 : Int) (a0_5 : Int) (a0_6 : Int) (a0_7 : ByteArray) (r : List (S32)) (w : World) (hT_ : TabOk w) (h : modbus_finish.f k a0_0 a0_1 a0_2 a0_3 a0_4 a0_5 a0_6 a0_7 = some r) :
  Calls Tryd.prog 27 #[.agg #[.int .i64 a0_0, .int .i64 a0_1, .int .i64 a0_2, .int .i64 a0_3, .int .i64 a0_4, .int .i64 a0_5, .int .i64 a0_6, .string a0_7]] w fun e w' => ∃ v0_ : Value, e = .returned (v0_) ∧ Kd.R k32 32 w' w.heap.size (fun _ => True) v0_ r ∧ Below w.heap.size w w' := by
 have hu27 := Tryd.underlying27
 have hu62 := Tryd.underlying62
 have hmf_ : ∀ (fn : Fn) (first cap : Array Value) (w : World), (Instr.makeFunc fn first cap).run Tryd.prog w = .ok (.func fn first cap) w := fun _ _ _ _ => rfl
 have HB := Aside0.mk (Below.refl w.heap.size w)
 have H : (if a0_3 = 0 then (some ([] : List (S32))) else ((modbus_frame_complete.f k a0_2 a0_5 a0_3 a0_7).bind fun bt130 => (some (([(⟨bt130.1, bt130.2.1, bt130.2.2.1, bt130.2.2.2.1, bt130.2.2.2.2.1, bt130.2.2.2.2.2.1, bt130.2.2.2.2.2.2⟩ : S32)] : List (S32)))))) = some r := h
 clear h
 by_cases c2 : a0_3 = 0
 ·rw [if_pos c2] at H
  have c2b0 : (a0_3 == 0) = true := beq_iff_eq.mpr c2
  have c2b1 : (a0_3 != 0) = false := bne_eq_false_iff_eq.mpr c2
  clear c2
  obtain rfl := Option.some.inj H
  go_enter Tryd.func27, Tryd.ntmps27
  go_wp2_with (first | ((with_reducible refine gate_dst (N := 1) rfl ?_); refine box_event ?hg (N := 1) ?hd (cs := #[.int .i64 a0_0, .int .i64 a0_1, .int .i64 a0_2, .int .i64 a0_3, .int .i64 a0_4, .int .i64 a0_5, .int .i64 a0_6, .string a0_7]) (t := 27) ?hr ?_; (case hd => rfl); (case hg => rfl); (case hr => first | (go_simp; done) | (go_simp; rfl)); intro gb129 hg w3 hbox hb; have n0_ := Aside0.mk (below_step (hbw HB.out) hb); have n1_ := Aside0.mk (hbox); have n2_ := Aside0.mk ((by rw [hg]; exact (below_size (hbw HB.out)) : w.heap.size ≤ gb129)); have n3_ := Aside0.mk ((by rw [hg]; exact (below_size (hbw HB.out)) : w.heap.size ≤ gb129)); clear HB; have HB := n0_; have BK129 := n1_; have GW129 := n2_; have GE129 := n3_; clear n0_ n1_ n2_ n3_; clear hb hbox hg; have hcz4_0 : w3.cell? ⟨gb129, 0, none⟩ = some (.int .i64 a0_0) := (blk_cell BK129.out 0).trans rfl; have hcz4_1 : w3.cell? ⟨gb129, 1, none⟩ = some (.int .i64 a0_1) := (blk_cell BK129.out 1).trans rfl; have hcz4_2 : w3.cell? ⟨gb129, 2, none⟩ = some (.int .i64 a0_2) := (blk_cell BK129.out 2).trans rfl; have hcz4_3 : w3.cell? ⟨gb129, 3, none⟩ = some (.int .i64 a0_3) := (blk_cell BK129.out 3).trans rfl; have hcz4_4 : w3.cell? ⟨gb129, 4, none⟩ = some (.int .i64 a0_4) := (blk_cell BK129.out 4).trans rfl; have hcz4_5 : w3.cell? ⟨gb129, 5, none⟩ = some (.int .i64 a0_5) := (blk_cell BK129.out 5).trans rfl; have hcz4_6 : w3.cell? ⟨gb129, 6, none⟩ = some (.int .i64 a0_6) := (blk_cell BK129.out 6).trans rfl; have hcz4_7 : w3.cell? ⟨gb129, 7, none⟩ = some (.string a0_7) := (blk_cell BK129.out 7).trans rfl; have hfz4_0 := blk_frozen BK129.out 0; have hfz4_1 := blk_frozen BK129.out 1; have hfz4_2 := blk_frozen BK129.out 2; have hfz4_3 := blk_frozen BK129.out 3; have hfz4_4 := blk_frozen BK129.out 4; have hfz4_5 := blk_frozen BK129.out 5; have hfz4_6 := blk_frozen BK129.out 6; have hfz4_7 := blk_frozen BK129.out 7))
  go_ret
  exact ⟨_, by first | rfl | (simp [errW_none, errW_some] <;> rfl) | (simp [*, errW_none, errW_some] <;> rfl), by first | exact Kd.R_nil _ _ _ _ _ | exact Kd.N_nil _ _ _ _ _ | exact Kd.V_nil _ _ _ _ _ | exact Kd.Q_nil _ _ _ _ _ | exact Kd.S_nil _ _ _ _ _, by repeat (first | (with_reducible first | exact HB.out | apply below_alloc | apply pw_below_drewN | apply below_drew1 | refine below_set ?_ GE129.out) | exact HB.out)⟩
 ·rw [if_neg c2] at H
  have c2b0 : (a0_3 == 0) = false := beq_eq_false_iff_ne.mpr c2
  have c2b1 : (a0_3 != 0) = true := bne_iff_ne.mpr c2
  replace H := Option.bind_eq_some_iff.mp H
  obtain ⟨⟨t130, t131, t132, t133, t134, t135, t136⟩, A50, H⟩ := H
  replace H : (some (([(⟨t130, t131, t132, t133, t134, t135, t136⟩ : S32)] : List (S32)))) = some r := H
  have A5 := Aside0.mk A50
  clear A50
  obtain ⟨y137, hy137⟩ : ∃ y_ : List (S32), y_ = (([(⟨t130, t131, t132, t133, t134, t135, t136⟩ : S32)] : List (S32))) := ⟨_, rfl⟩
  replace H : (some y137) = some r := by first | (rw [hy137]; with_reducible exact H) | (have H2_ := (Option.bind_some _ _).symm.trans H; rw [hy137]; with_reducible exact H2_) | (have H2_ := (Option.bind_some _ _).symm.trans H; with_reducible exact H2_) | with_reducible exact H | (rw [hy137]; exact H) | exact H
  have Ny137 := Aside0.mk hy137
  clear hy137
  obtain rfl := Option.some.inj H
  go_enter Tryd.func27, Tryd.ntmps27
  go_wp2_with (first | ((with_reducible refine gate_dst (N := 1) rfl ?_); refine box_event ?hg (N := 1) ?hd (cs := #[.int .i64 a0_0, .int .i64 a0_1, .int .i64 a0_2, .int .i64 a0_3, .int .i64 a0_4, .int .i64 a0_5, .int .i64 a0_6, .string a0_7]) (t := 27) ?hr ?_; (case hd => rfl); (case hg => rfl); (case hr => first | (go_simp; done) | (go_simp; rfl)); intro gb129 hg w6 hbox hb; have n0_ := Aside0.mk (below_step (hbw HB.out) hb); have n1_ := Aside0.mk (hbox); have n2_ := Aside0.mk ((by rw [hg]; exact (below_size (hbw HB.out)) : w.heap.size ≤ gb129)); have n3_ := Aside0.mk ((by rw [hg]; exact (below_size (hbw HB.out)) : w.heap.size ≤ gb129)); clear HB; have HB := n0_; have BK129 := n1_; have GW129 := n2_; have GE129 := n3_; clear n0_ n1_ n2_ n3_; clear hb hbox hg; have hcz7_0 : w6.cell? ⟨gb129, 0, none⟩ = some (.int .i64 a0_0) := (blk_cell BK129.out 0).trans rfl; have hcz7_1 : w6.cell? ⟨gb129, 1, none⟩ = some (.int .i64 a0_1) := (blk_cell BK129.out 1).trans rfl; have hcz7_2 : w6.cell? ⟨gb129, 2, none⟩ = some (.int .i64 a0_2) := (blk_cell BK129.out 2).trans rfl; have hcz7_3 : w6.cell? ⟨gb129, 3, none⟩ = some (.int .i64 a0_3) := (blk_cell BK129.out 3).trans rfl; have hcz7_4 : w6.cell? ⟨gb129, 4, none⟩ = some (.int .i64 a0_4) := (blk_cell BK129.out 4).trans rfl; have hcz7_5 : w6.cell? ⟨gb129, 5, none⟩ = some (.int .i64 a0_5) := (blk_cell BK129.out 5).trans rfl; have hcz7_6 : w6.cell? ⟨gb129, 6, none⟩ = some (.int .i64 a0_6) := (blk_cell BK129.out 6).trans rfl; have hcz7_7 : w6.cell? ⟨gb129, 7, none⟩ = some (.string a0_7) := (blk_cell BK129.out 7).trans rfl; have hfz7_0 := blk_frozen BK129.out 0; have hfz7_1 := blk_frozen BK129.out 1; have hfz7_2 := blk_frozen BK129.out 2; have hfz7_3 := blk_frozen BK129.out 3; have hfz7_4 := blk_frozen BK129.out 4; have hfz7_5 := blk_frozen BK129.out 5; have hfz7_6 := blk_frozen BK129.out 6; have hfz7_7 := blk_frozen BK129.out 7) | (go_at_call 34; (with_reducible refine (modbus_frame_complete.calls k a0_2 a0_5 a0_3 a0_7 t130 t131 t132 t133 t134 t135 t136 _ ?side1 A5.out).mono ?_); (case side1 => refine TabOk.below hT_ ?_; repeat (first | (with_reducible first | exact HB.out | apply below_alloc | apply pw_below_drewN | apply below_drew1 | refine below_set ?_ GE129.out) | exact HB.out)); rintro e w8 ⟨rfl, hb⟩; have n0_ := Aside0.mk (blkb BK129.out hb); have n1_ := Aside0.mk (below_step (hbw HB.out) hb); clear BK129; clear HB; have BK129 := n0_; have HB := n1_; clear n0_ n1_; (try clear hb); (try clear hb2); (try clear hk); (try clear hi)) | ((with_reducible refine gate_dst (N := 19) rfl ?_); refine Kd.R_lit k32 _ 32 ?hg (N := 19) ?hd (xs := ([(⟨t130, t131, t132, t133, t134, t135, t136⟩ : S32)] : List (S32))) (inner := [.int .i64 t130, .int .i64 t131, .int .i64 t132, .int .i64 t133, .int .i64 t134, .string t135, .int .i64 t136]) (ok := fun _ => True) (okp := fun _ => True) ?hr ?hp (fun _ hk => hk) trivial (Below.refl _ _) (Nat.le_refl _) (by simp) ?_; (case hd => rfl); (case hg => rfl); (case hr => first | (go_simp; done) | (go_simp; rfl)); (case hp => exact (Reps.c7 (show Kd.M k32 _ _ _ (⟨t130, t131, t132, t133, t134, t135, t136⟩ : S32) [.int .i64 t130, .int .i64 t131, .int .i64 t132, .int .i64 t133, .int .i64 t134, .string t135, .int .i64 t136] from (k32_mkM _ _ _ (⟨t130, t131, t132, t133, t134, t135, t136⟩ : S32) )) (Reps.none _ _))); intro v138 w9 ho10 hb hg_ hnew_; clear hg_ hnew_; (first | rw [← Ny137.out] at ho10 | (simp only [Int.reduceToNat] at ho10; rw [← Ny137.out] at ho10)); have n0_ := Aside0.mk (Kd.R_lower ho10 (below_size (hbw HB.out))); have n1_ := Aside0.mk (blkb BK129.out hb); have n2_ := Aside0.mk (below_step (hbw HB.out) hb); clear BK129; clear HB; have HO139 := n0_; have BK129 := n1_; have HB := n2_; clear n0_ n1_ n2_; clear hb ho10))
  go_ret
  exact ⟨_, by first | rfl | (simp [errW_none, errW_some] <;> rfl) | (simp [*, errW_none, errW_some] <;> rfl), by (with_reducible repeat (first | apply Kd.R_alloc | apply Kd.R_drewN | apply Kd.R_drew)); exact HO139.out, by repeat (first | (with_reducible first | exact HB.out | apply below_alloc | apply pw_below_drewN | apply below_drew1 | refine below_set ?_ GE129.out) | exact HB.out)⟩

end Go.Proofs.YtmalhgidhieamaaDoor.PModbusGaps
