-- Written by a program of this session (wip/tools/pr.py), which calls the kit's print with changes of its own.
import Derived.Test.YtmalhgidhieamaaDoorPModbusDecodesx0
import Derived.Test.YtmalhgidhieamaaDoorPModbusDecodesx5
namespace Go.Proofs.YtmalhgidhieamaaDoor.PModbusDecodes
open Go.RowKit Go.Proofs.YtmalhgidhieamaaDoorW.PrintWords Go.Proofs.YtmalhgidhieamaaDoorW.PrintLast Go.Proofs.YtmalhgidhieamaaDoorW.PrintMore
attribute [local go_sem] max2_int min2_int max_two min_two max_three min_three max_four min_four   -- for this text's walks alone
set_option linter.unusedVariables false
set_option linter.unusedSimpArgs false

/-! ### modbus_frame_complete: function 34 -/
def modbus_frame_complete.f (k : Nat) (a0_0 : Int) (a0_1 : Int) (a0_2 : Int) (a0_3 : ByteArray) : Option (Int × Int × Int × Int × Int × ByteArray × Int) := if a0_2 < 4 then (some (5, a0_0, a0_1, 0, 0, a0_3, 8)) else (if 0 < (a0_3.size : Int) then (if 1 < (a0_3.size : Int) then (if a0_2 > 4100 then (if 2 ≤ 4098 then (if 4098 ≤ (a0_3.size : Int) then (some (5, a0_0, a0_1, wrap64 (bt a0_3 0), wrap64 (bt a0_3 1), a0_3.extract 2 4098, 8)) else (none)) else (none)) else (if 2 ≤ (wrap64 (a0_2 - 2)) then (if (wrap64 (a0_2 - 2)) ≤ (a0_3.size : Int) then (if 0 ≤ (wrap64 (a0_2 - 2)) then ((modbus_sum.f k (a0_3.extract 0 ((wrap64 (a0_2 - 2)) : Int).toNat)).bind fun t128 => (if t128.toList = (a0_3.extract ((wrap64 (a0_2 - 2)) : Int).toNat a0_3.size).toList then (some (5, a0_0, a0_1, wrap64 (bt a0_3 0), wrap64 (bt a0_3 1), a0_3.extract 2 ((wrap64 (a0_2 - 2)) : Int).toNat, 0)) else (some (5, a0_0, a0_1, wrap64 (bt a0_3 0), wrap64 (bt a0_3 1), a0_3.extract 2 ((wrap64 (a0_2 - 2)) : Int).toNat, 3)))) else (none)) else (none)) else (none))) else (none)) else (none))
theorem modbus_frame_complete.mono : ∀ a0 a1 a2 a3 k, LeO (modbus_frame_complete.f k a0 a1 a2 a3) (modbus_frame_complete.f (k + 1) a0 a1 a2 a3) := by
 intro a0 a1 a2 a3 k
 unfold modbus_frame_complete.f
 repeat' first
   | (with_reducible exact modbus_sum.mono _ _)
   | (with_reducible exact LeO.refl _)
   | (with_reducible exact LeO.none _)
   | (with_reducible refine LeO.ite ?_ ?_)
   | (with_reducible refine LeO.bind ?_ (fun _ => ?_))
   | exact modbus_sum.mono _ _
   | exact LeO.none _
   | refine LeO.ite ?_ ?_
   | refine LeO.bind ?_ (fun _ => ?_)
def modbus_frame_complete.T4 : Bool × List (List Nat × List Nat) := (true, [([], []), ([0], [0]), ([1], [1]), ([2], [2]), ([], []), ([4], [4]), ([5], [5]), ([6], [6]), ([0, 1, 2, 3], []), ([8, 3, 0, 1, 2, 3], [3, 8]), ([0, 1, 2, 3, 4, 5, 6, 7, 8, 9], []), ([10, 7, 9, 0, 1, 2, 3, 4, 5, 6, 7, 8, 9], [7, 10])])
def modbus_frame_complete.B4 : List Nat := [0, 1, 3, 7, 0, 16, 48, 112, 15, 271, 1023, 2047]
theorem modbus_frame_complete.tab4 : rtab .any (opsOf Tryd.f34 4) = modbus_frame_complete.T4 := by kernel_rfl
theorem modbus_frame_complete.bits4 : waitsOk modbus_frame_complete.T4.2 modbus_frame_complete.B4 = true := by kernel_rfl
def modbus_frame_complete.T9 : Bool × List (List Nat × List Nat) := (true, [([], []), ([0], [0]), ([], []), ([2], [2]), ([3], [3]), ([1, 4], [1, 4]), ([5], [5]), ([], []), ([7], [7]), ([], []), ([9], [9]), ([10], [10]), ([8, 11], [8, 11]), ([6, 12], [6, 12])])
def modbus_frame_complete.B9 : List Nat := [0, 1, 0, 4, 12, 31, 63, 0, 128, 0, 512, 1536, 3968, 8191]
theorem modbus_frame_complete.tab9 : rtab .any (opsOf Tryd.f34 9) = modbus_frame_complete.T9 := by kernel_rfl
theorem modbus_frame_complete.bits9 : waitsOk modbus_frame_complete.T9.2 modbus_frame_complete.B9 = true := by kernel_rfl
set_option maxHeartbeats 8000000 in
set_option maxRecDepth 100000 in
theorem modbus_frame_complete.calls (k : Nat) (a0_0 : Int) (a0_1 : Int) (a0_2 : Int) (a0_3 : ByteArray) (r1 : Int) (r2 : Int) (r3 : Int) (r4 : Int) (r5 : Int) (r6 : ByteArray) (r7 : Int) (w : World) (hT_ : TabOk w) (h : modbus_frame_complete.f k a0_0 a0_1 a0_2 a0_3 = some (r1, r2, r3, r4, r5, r6, r7)) :
  Calls Tryd.prog 34 #[.agg #[.int .i64 a0_0, .int .i64 a0_1, .int .i64 a0_2, .string a0_3]] w fun e w' => e = .returned (.agg #[.int .i64 r1, .int .i64 r2, .int .i64 r3, .int .i64 r4, .int .i64 r5, .string r6, .int .i64 r7]) ∧ Below w.heap.size w w' := by
 have hu62 := Tryd.underlying62; have hu32 := Tryd.underlying32; have HB := sA (Below.refl w.heap.size w); have H : (if a0_2 < 4 then (some (5, a0_0, a0_1, 0, 0, a0_3, 8)) else (if 0 < (a0_3.size : Int) then (if 1 < (a0_3.size : Int) then (if a0_2 > 4100 then (if 2 ≤ 4098 then (if 4098 ≤ (a0_3.size : Int) then (some (5, a0_0, a0_1, wrap64 (bt a0_3 0), wrap64 (bt a0_3 1), a0_3.extract 2 4098, 8)) else (none)) else (none)) else (if 2 ≤ (wrap64 (a0_2 - 2)) then (if (wrap64 (a0_2 - 2)) ≤ (a0_3.size : Int) then (if 0 ≤ (wrap64 (a0_2 - 2)) then ((modbus_sum.f k (a0_3.extract 0 ((wrap64 (a0_2 - 2)) : Int).toNat)).bind fun t128 => (if t128.toList = (a0_3.extract ((wrap64 (a0_2 - 2)) : Int).toNat a0_3.size).toList then (some (5, a0_0, a0_1, wrap64 (bt a0_3 0), wrap64 (bt a0_3 1), a0_3.extract 2 ((wrap64 (a0_2 - 2)) : Int).toNat, 0)) else (some (5, a0_0, a0_1, wrap64 (bt a0_3 0), wrap64 (bt a0_3 1), a0_3.extract 2 ((wrap64 (a0_2 - 2)) : Int).toNat, 3)))) else (none)) else (none)) else (none))) else (none)) else (none))) = some (r1, r2, r3, r4, r5, r6, r7) := h; clear h
 by_cases c2 : a0_2 < 4
 ·rw [if_pos c2] at H
  have c2b0 : decide (a0_2 < 4) = true := decide_eq_true c2; clear c2
  simp only [Option.some.injEq, Prod.mk.injEq] at H
  obtain ⟨rfl, rfl, rfl, rfl, rfl, rfl, rfl⟩ := H
  go_enter Tryd.func34, Tryd.ntmps34
  go_wp2_with (first | ((with_reducible refine gate_dst (N := 1) rfl ?_); refine boxK 1 #[.int .i64 a0_0, .int .i64 a0_1, .int .i64 a0_2, .string a0_3] 62 ?_; intro gb125 hg w3 hbox hb; have BK125 := sA hbox; have GW125 := bsz HB hg; have GE125 := bsz HB hg; replace HB := bst HB hb; clear hb hbox hg) | ((with_reducible refine gate_dst (N := 2) rfl ?_); refine boxK 2 #[.int .i64 0, .int .i64 0, .int .i64 0, .int .i64 0, .int .i64 0, .string (⟨#[]⟩ : ByteArray), .int .i64 0] 32 ?_; intro gb126 hg w4 hbox hb; have BK126 := sA hbox; have GW126 := bsz HB hg; have GE126 := bsz HB hg; have NB125_126 := bnl BK125 hg; have NB126_125 := bng BK125 hg; replace BK125 := sA (blkb BK125.out hb); replace HB := bst HB hb; clear hb hbox hg; have hnb5 := NB125_126.out; have hnc5 := NB126_125.out; obtain ⟨_,_,_,_,_,_,_,_⟩ := cQ4 BK125) | ((with_reducible refine gate_dst (N := 3) rfl ?_); refine boxK 3 #[.int .i64 0, .int .i64 0, .int .i64 0, .int .i64 0, .int .i64 0, .string (⟨#[]⟩ : ByteArray), .int .i64 0] 32 ?_; intro gb127 hg w7 hbox hb; have BK127 := sA hbox; have GW127 := bsz HB hg; have GE127 := bsz HB hg; have NB125_127 := bnl BK125 hg; have NB127_125 := bng BK125 hg; have NB126_127 := bnl BK126 hg; have NB127_126 := bng BK126 hg; replace BK125 := sA (blkb BK125.out hb); replace BK126 := sA (blkb BK126.out hb); replace HB := bst HB hb; clear hb hbox hg; have hnb8 := NB127_125.out; have hnc8 := NB125_127.out; have hnb9 := NB127_126.out; have hnc9 := NB126_127.out; obtain ⟨_,_,_,_,_,_,_,_,_,_,_,_,_,_⟩ := cQ7 BK127; obtain ⟨_,_,_,_,_,_,_,_⟩ := cQ4 BK125; obtain ⟨_,_,_,_,_,_,_,_,_,_,_,_,_,_⟩ := cQ7 BK126))
  refine bodyPost_ret (results_cell_row rfl _ _ gb126 32 #[.int .i64 5, .int .i64 a0_0, .int .i64 a0_1, .int .i64 0, .int .i64 0, .string a0_3, .int .i64 8] (0, 0) _ rfl (by (with_reducible repeat (first | refine blk_drewN ?_ _ | refine blk_drew ?_ | refine blk_alloc ?_ _)); refine blk_put7 (.int .i64 0) (.int .i64 0) (.int .i64 0) (.int .i64 0) (.int .i64 0) (.string (⟨#[]⟩ : ByteArray)) (.int .i64 0) ?_; (repeat (with_reducible first | refine blk_far ?_ NB126_127.out _ | refine blk_drewN ?_ _ | refine blk_drew ?_ | refine blk_alloc ?_ _)); exact BK126.out) Tryd.underlying32 rfl (by kernel_rfl)) rfl ?_
  exact ⟨eW_, hbw HB.out⟩
 ·rw [if_neg c2] at H
  have c2b0 : decide (a0_2 < 4) = false := decide_eq_false c2; clear c2
  by_cases c13 : 0 < (a0_3.size : Int)
  ·rw [if_pos c13] at H
   have c13b0 : decide (0 < (a0_3.size : Int)) = true := decide_eq_true c13; have c13b1 : decide (0 < a0_3.size) = true := decide_eq_true (by omega); clear c13
   by_cases c15 : 1 < (a0_3.size : Int)
   ·rw [if_pos c15] at H
    have c15b0 : decide (1 < (a0_3.size : Int)) = true := decide_eq_true c15; have c15b1 : decide (1 < a0_3.size) = true := decide_eq_true (by omega); clear c15
    by_cases c17 : a0_2 > 4100
    ·rw [if_pos c17] at H
     have c17b0 : decide (4100 < a0_2) = true := decide_eq_true c17; clear c17
     by_cases c18 : 2 ≤ 4098
     ·rw [if_pos c18] at H
      have c18b0 := eq_true c18; have c18b1 : decide (2 ≤ 4098) = true := decide_eq_true c18; clear c18
      by_cases c19 : 4098 ≤ (a0_3.size : Int)
      ·rw [if_pos c19] at H
       have c19b0 := eq_true c19; have c19b1 : decide (4098 ≤ (a0_3.size : Int)) = true := decide_eq_true c19; clear c19
       simp only [Option.some.injEq, Prod.mk.injEq] at H
       obtain ⟨rfl, rfl, rfl, rfl, rfl, rfl, rfl⟩ := H
       go_enter Tryd.func34, Tryd.ntmps34
       try go_wp2_with (first | ((with_reducible refine gate_dst (N := 1) rfl ?_); refine boxK 1 #[.int .i64 a0_0, .int .i64 a0_1, .int .i64 a0_2, .string a0_3] 62 ?_; intro gb125 hg w20 hbox hb; have BK125 := sA hbox; have GW125 := bsz HB hg; have GE125 := bsz HB hg; replace HB := bst HB hb; clear hb hbox hg) | ((with_reducible refine gate_dst (N := 2) rfl ?_); refine boxK 2 #[.int .i64 0, .int .i64 0, .int .i64 0, .int .i64 0, .int .i64 0, .string (⟨#[]⟩ : ByteArray), .int .i64 0] 32 ?_; intro gb126 hg w21 hbox hb; have BK126 := sA hbox; have GW126 := bsz HB hg; have GE126 := bsz HB hg; have NB125_126 := bnl BK125 hg; have NB126_125 := bng BK125 hg; replace BK125 := sA (blkb BK125.out hb); replace HB := bst HB hb; clear hb hbox hg; have hnb22 := NB125_126.out; have hnc22 := NB126_125.out; obtain ⟨_,_,_,_,_,_,_,_⟩ := cQ4 BK125) | ((with_reducible refine gate_dst (N := 3) rfl ?_); refine boxK 3 #[.int .i64 0, .int .i64 0, .int .i64 0, .int .i64 0, .int .i64 0, .string (⟨#[]⟩ : ByteArray), .int .i64 0] 32 ?_; intro gb127 hg w24 hbox hb; have BK127 := sA hbox; have GW127 := bsz HB hg; have GE127 := bsz HB hg; have NB125_127 := bnl BK125 hg; have NB127_125 := bng BK125 hg; have NB126_127 := bnl BK126 hg; have NB127_126 := bng BK126 hg; replace BK125 := sA (blkb BK125.out hb); replace BK126 := sA (blkb BK126.out hb); replace HB := bst HB hb; clear hb hbox hg; have hnb25 := NB127_125.out; have hnc25 := NB125_127.out; have hnb26 := NB127_126.out; have hnc26 := NB126_127.out; obtain ⟨_,_,_,_,_,_,_,_,_,_,_,_,_,_⟩ := cQ7 BK127; obtain ⟨_,_,_,_,_,_,_,_⟩ := cQ4 BK125))
       have n0_ : Aside0 ((((((((w24.setCell ⟨gb127, 0, none⟩ (.int .i64 5)).setCell ⟨gb127, 1, none⟩ (.int .i64 a0_0)).setCell ⟨gb127, 2, none⟩ (.int .i64 a0_1)).setCell ⟨gb127, 3, none⟩ (.int .i64 0)).setCell ⟨gb127, 4, none⟩ (.int .i64 0)).setCell ⟨gb127, 5, none⟩ (.string a0_3)).setCell ⟨gb127, 6, none⟩ (.int .i64 8)).heap[gb125]? = some (.cells #[.int .i64 a0_0, .int .i64 a0_1, .int .i64 a0_2, .string a0_3] 62 (0, 0))) := ⟨by (repeat (with_reducible first | refine blk_far ?_ NB125_127.out _ | refine blk_drewN ?_ _ | refine blk_drew ?_ | refine blk_alloc ?_ _)); exact BK125.out⟩; have n1_ : Aside0 ((((((((w24.setCell ⟨gb127, 0, none⟩ (.int .i64 5)).setCell ⟨gb127, 1, none⟩ (.int .i64 a0_0)).setCell ⟨gb127, 2, none⟩ (.int .i64 a0_1)).setCell ⟨gb127, 3, none⟩ (.int .i64 0)).setCell ⟨gb127, 4, none⟩ (.int .i64 0)).setCell ⟨gb127, 5, none⟩ (.string a0_3)).setCell ⟨gb127, 6, none⟩ (.int .i64 8)).heap[gb126]? = some (.cells #[.int .i64 0, .int .i64 0, .int .i64 0, .int .i64 0, .int .i64 0, .string (⟨#[]⟩ : ByteArray), .int .i64 0] 32 (0, 0))) := ⟨by (repeat (with_reducible first | refine blk_far ?_ NB126_127.out _ | refine blk_drewN ?_ _ | refine blk_drew ?_ | refine blk_alloc ?_ _)); exact BK126.out⟩; have n2_ : Aside0 ((((((((w24.setCell ⟨gb127, 0, none⟩ (.int .i64 5)).setCell ⟨gb127, 1, none⟩ (.int .i64 a0_0)).setCell ⟨gb127, 2, none⟩ (.int .i64 a0_1)).setCell ⟨gb127, 3, none⟩ (.int .i64 0)).setCell ⟨gb127, 4, none⟩ (.int .i64 0)).setCell ⟨gb127, 5, none⟩ (.string a0_3)).setCell ⟨gb127, 6, none⟩ (.int .i64 8)).heap[gb127]? = some (.cells #[.int .i64 5, .int .i64 a0_0, .int .i64 a0_1, .int .i64 0, .int .i64 0, .string a0_3, .int .i64 8] 32 (0, 0))) := ⟨by (with_reducible repeat (first | refine blk_drewN ?_ _ | refine blk_drew ?_ | refine blk_alloc ?_ _)); refine blk_put7 (.int .i64 0) (.int .i64 0) (.int .i64 0) (.int .i64 0) (.int .i64 0) (.string (⟨#[]⟩ : ByteArray)) (.int .i64 0) ?_; (with_reducible repeat (first | refine blk_drewN ?_ _ | refine blk_drew ?_ | refine blk_alloc ?_ _)); exact BK127.out⟩; have n3_ : Aside0 (Below w.heap.size w (((((((w24.setCell ⟨gb127, 0, none⟩ (.int .i64 5)).setCell ⟨gb127, 1, none⟩ (.int .i64 a0_0)).setCell ⟨gb127, 2, none⟩ (.int .i64 a0_1)).setCell ⟨gb127, 3, none⟩ (.int .i64 0)).setCell ⟨gb127, 4, none⟩ (.int .i64 0)).setCell ⟨gb127, 5, none⟩ (.string a0_3)).setCell ⟨gb127, 6, none⟩ (.int .i64 8))) := ⟨hbw HB.out⟩; (try clear BK125); (try clear BK126); (try clear BK127); (try clear HB)
       generalize (((((((w24.setCell ⟨gb127, 0, none⟩ (.int .i64 5)).setCell ⟨gb127, 1, none⟩ (.int .i64 a0_0)).setCell ⟨gb127, 2, none⟩ (.int .i64 a0_1)).setCell ⟨gb127, 3, none⟩ (.int .i64 0)).setCell ⟨gb127, 4, none⟩ (.int .i64 0)).setCell ⟨gb127, 5, none⟩ (.string a0_3)).setCell ⟨gb127, 6, none⟩ (.int .i64 8)) = w29 at n0_ n1_ n2_ n3_ ⊢
       have BK125 := n0_; have BK126 := n1_; have BK127 := n2_; have HB := n3_; clear n0_ n1_ n2_ n3_; replace BK125 := sA (blk_drew BK125.out); replace BK126 := sA (blk_drew BK126.out); replace BK127 := sA (blk_drew BK127.out); replace HB := sA (below_drew1 HB.out); have p14 : 0 ≤ (0 : Int) := (by omega); have q14 : 0 < a0_3.size := (by have : (0 : Int) < (a0_3.size : Int) := of_decide_eq_true (by first | (with_reducible assumption) | assumption); omega); have hx14 : ∀ h : 0 < a0_3.size, ((a0_3[0]'h).toNat : Int) = bt a0_3 0 := bt_at a0_3 0; clear p14; have qi14 : (0 < (a0_3.size : Int)) = True := eq_true (of_decide_eq_true (by first | (with_reducible assumption) | assumption)); replace q14 := eq_true q14; have p16 : 0 ≤ (1 : Int) := (by omega); have q16 : 1 < a0_3.size := (by have : (1 : Int) < (a0_3.size : Int) := of_decide_eq_true (by first | (with_reducible assumption) | assumption); omega); have hx16 : ∀ h : 1 < a0_3.size, ((a0_3[1]'h).toNat : Int) = bt a0_3 1 := bt_at a0_3 1; clear p16; have qi16 : (1 < (a0_3.size : Int)) = True := eq_true (of_decide_eq_true (by first | (with_reducible assumption) | assumption)); replace q16 := eq_true q16; refine start_ (n := 12) (S := fun w' => w'.cell? ⟨gb125, 0, none⟩ = some (.int .i64 a0_0) ∧ w'.cell? ⟨gb125, 1, none⟩ = some (.int .i64 a0_1) ∧ w'.cell? ⟨gb125, 2, none⟩ = some (.int .i64 a0_2) ∧ w'.cell? ⟨gb125, 3, none⟩ = some (.string a0_3)) (ds := []) #[N_,N_,N_,N_,N_,N_,N_,N_,N_,N_,N_,N_] (by kernel_rfl) rfl rfl ⟨ck BK125 0, ck BK125 1, ck BK125 2, ck BK125 3⟩ (fun hHeld => ?_); refine with_tabW modbus_frame_complete.tab4 modbus_frame_complete.bits4 (fun HT_ HW_ => ?_)
       generalize w29.drew = w30 at BK125 BK126 BK127 HB hHeld ⊢
       refine pstep 0 (some 15) #[Y_,N_,N_,N_,N_,N_,N_,N_,N_,N_,N_,N_] HT_.out ?_; refine pstep 4 (some 19) #[Y_,N_,N_,N_,Y_,N_,N_,N_,N_,N_,N_,N_] HT_.out ?_; refine take_ (i := 1) (N := some 16) (v := ?_) (a' := ?_) #[Y_,Y_,N_,N_,Y_,N_,N_,N_,N_,N_,N_,N_] rfl rfl (take_ofW HT_.out HW_.out (by kernel_rfl)) (fun _ _ _ h => h) (Or.inl ⟨by rfl, ?_⟩) hHeld ?_ ?_; rotate_left
       ·rintro w' ⟨s0, s1, s2, s3⟩
        go_simp
        with_reducible rfl
       rotate_left
       ·simp only [Act.put, nrm]
        rfl
       refine take_ (i := 2) (N := some 17) (v := ?_) (a' := ?_) #[Y_,Y_,Y_,N_,Y_,N_,N_,N_,N_,N_,N_,N_] rfl rfl (take_ofW HT_.out HW_.out (by kernel_rfl)) (fun _ _ _ h => h) (Or.inl ⟨by rfl, ?_⟩) hHeld ?_ ?_; rotate_left
       ·rintro w' ⟨s0, s1, s2, s3⟩
        go_simp
        with_reducible rfl
       rotate_left
       ·simp only [Act.put, nrm]
        rfl
       refine pstep 3 (some 18) #[Y_,Y_,Y_,Y_,Y_,N_,N_,N_,N_,N_,N_,N_] HT_.out ?_; refine pstep 8 (some 23) #[Y_,Y_,Y_,Y_,Y_,N_,N_,N_,Y_,N_,N_,N_] HT_.out ?_; refine take_ (i := 5) (N := some 20) (v := ?_) (a' := ?_) #[Y_,Y_,Y_,Y_,Y_,Y_,N_,N_,Y_,N_,N_,N_] rfl rfl (take_ofW HT_.out HW_.out (by kernel_rfl)) (fun _ _ _ h => h) (Or.inl ⟨by rfl, ?_⟩) hHeld ?_ ?_; rotate_left
       ·rintro w' ⟨s0, s1, s2, s3⟩
        go_simp
        with_reducible rfl
       rotate_left
       ·simp only [Act.put, nrm]
        rfl
       refine take_ (i := 6) (N := some 21) (v := ?_) (a' := ?_) #[Y_,Y_,Y_,Y_,Y_,Y_,Y_,N_,Y_,N_,N_,N_] rfl rfl (take_ofW HT_.out HW_.out (by kernel_rfl)) (fun _ _ _ h => h) (Or.inl ⟨by rfl, ?_⟩) hHeld ?_ ?_; rotate_left
       ·rintro w' ⟨s0, s1, s2, s3⟩
        go_simp
        with_reducible rfl
       rotate_left
       ·simp only [Act.put, nrm]
        rfl
       refine pstep 7 (some 22) #[Y_,Y_,Y_,Y_,Y_,Y_,Y_,Y_,Y_,N_,N_,N_] HT_.out ?_; refine one_ (i := 9) (N := none) #[Y_,Y_,Y_,Y_,Y_,Y_,Y_,Y_,Y_,Y_,N_,N_] rfl rfl (one_of HT_.out (by kernel_rfl)) (by decide) (fun K hK => ?_); have hs31 : w30.cell? ⟨gb127, 3, none⟩ = some (.int .i64 0) := ck BK127 3; have hfs31 := blk_frozen BK127.out 3; have := NB125_127.out; have := NB126_127.out; have := NB127_125.out; have := NB127_126.out; refine skip_ (w1 := ?_) (by rfl) rfl ?_ ?_; rotate_left
       ·go_simp
        rfl
       refine hK.out _ _ ⟨((cell_far (p := ⟨gb127, _, none⟩) NB125_127.out _).trans (hHeld.1)), ((cell_far (p := ⟨gb127, _, none⟩) NB125_127.out _).trans (hHeld.2.1)), ((cell_far (p := ⟨gb127, _, none⟩) NB125_127.out _).trans (hHeld.2.2.1)), ((cell_far (p := ⟨gb127, _, none⟩) NB125_127.out _).trans (hHeld.2.2.2))⟩ (fun hHeld => ?_); clear hK K; refine pstep 10 (some 24) #[Y_,Y_,Y_,Y_,Y_,Y_,Y_,Y_,Y_,Y_,Y_,N_] HT_.out ?_; refine one_ (i := 11) (N := none) #[Y_,Y_,Y_,Y_,Y_,Y_,Y_,Y_,Y_,Y_,Y_,Y_] rfl rfl (one_of HT_.out (by kernel_rfl)) (by decide) (fun K hK => ?_); have hs32 : w30.cell? ⟨gb127, 4, none⟩ = some (.int .i64 0) := ck BK127 4; have hfs32 := blk_frozen BK127.out 4; have := NB125_127.out; have := NB126_127.out; have := NB127_125.out; have := NB127_126.out; refine skip_ (w1 := ?_) (by rfl) rfl ?_ ?_; rotate_left
       ·go_simp
        rfl
       refine hK.out _ _ ⟨((cell_far (p := ⟨gb127, _, none⟩) NB125_127.out _).trans (hHeld.1)), ((cell_far (p := ⟨gb127, _, none⟩) NB125_127.out _).trans (hHeld.2.1)), ((cell_far (p := ⟨gb127, _, none⟩) NB125_127.out _).trans (hHeld.2.2.1)), ((cell_far (p := ⟨gb127, _, none⟩) NB125_127.out _).trans (hHeld.2.2.2))⟩ (fun hHeld => ?_); clear hK K; refine done_ (done_of HT_.out (by kernel_rfl)) ?_; obtain ⟨_,_,_,_,_,_,_,_⟩ := cQ4 BK125; obtain ⟨_,_,_,_,_,_,_,_,_,_,_,_,_,_⟩ := cQ7 BK127; obtain ⟨_,_,_,_,_,_,_,_,_,_,_,_,_,_⟩ := cQ7 BK126
       try go_wp2
       refine bodyPost_ret (results_cell_row rfl _ _ gb126 32 #[.int .i64 5, .int .i64 a0_0, .int .i64 a0_1, .int .i64 (wrap64 (bt a0_3 0)), .int .i64 (wrap64 (bt a0_3 1)), .string (a0_3.extract 2 4098), .int .i64 8] (0, 0) _ rfl (by (with_reducible repeat (first | refine blk_drewN ?_ _ | refine blk_drew ?_ | refine blk_alloc ?_ _)); refine blk_put7 (.int .i64 0) (.int .i64 0) (.int .i64 0) (.int .i64 0) (.int .i64 0) (.string (⟨#[]⟩ : ByteArray)) (.int .i64 0) ?_; (repeat (with_reducible first | refine blk_far ?_ NB126_127.out _ | refine blk_drewN ?_ _ | refine blk_drew ?_ | refine blk_alloc ?_ _)); exact BK126.out) Tryd.underlying32 rfl (by kernel_rfl)) rfl ?_
       exact ⟨eW_, hbw HB.out⟩
      ·rw [if_neg c19] at H
       exact absurd H (by simp)
     ·exact absurd (by decide) c18
    ·rw [if_neg c17] at H
     have c17b0 : decide (4100 < a0_2) = false := decide_eq_false c17; clear c17
     by_cases c36 : 2 ≤ (wrap64 (a0_2 - 2))
     ·rw [if_pos c36] at H
      have c36b0 := eq_true c36; have c36b1 : decide (2 ≤ (wrap64 (a0_2 - 2))) = true := decide_eq_true c36; clear c36
      by_cases c37 : (wrap64 (a0_2 - 2)) ≤ (a0_3.size : Int)
      ·rw [if_pos c37] at H
       have c37b0 := eq_true c37; have c37b1 : decide ((wrap64 (a0_2 - 2)) ≤ (a0_3.size : Int)) = true := decide_eq_true c37; clear c37; obtain ⟨ji38, hji38⟩ : ∃ j_ : Int, (wrap64 (a0_2 - 2)) = j_ := ⟨_, rfl⟩
       replace H : (if 0 ≤ (ji38) then ((modbus_sum.f k (a0_3.extract 0 ((ji38) : Int).toNat)).bind fun t128 => (if t128.toList = (a0_3.extract ((ji38) : Int).toNat a0_3.size).toList then (some (5, a0_0, a0_1, wrap64 (bt a0_3 0), wrap64 (bt a0_3 1), a0_3.extract 2 ((ji38) : Int).toNat, 0)) else (some (5, a0_0, a0_1, wrap64 (bt a0_3 0), wrap64 (bt a0_3 1), a0_3.extract 2 ((ji38) : Int).toNat, 3)))) else (none)) = some (r1, r2, r3, r4, r5, r6, r7) := by first | (rw [hji38] at H; exact H) | (simp only [hji38] at H ⊢; exact H)
       (try rw [hji38] at c36b0); (try rw [hji38] at c36b1); (try rw [hji38] at c37b0); (try rw [hji38] at c37b1); have hji38w : (IntKind.i64.wrap (a0_2 - 2)) = ji38 := (i64_w _).trans hji38
       by_cases c39 : 0 ≤ (ji38)
       ·rw [if_pos c39] at H
        have c39b0 := eq_true c39; have c39b1 : decide (0 ≤ (ji38)) = true := decide_eq_true c39; clear c39; have c40b0 := eq_true (of_decide_eq_true (by first | (with_reducible assumption) | assumption) : (ji38) ≤ (a0_3.size : Int)); replace H := Option.bind_eq_some_iff.mp H; obtain ⟨t128, A410, H⟩ := H; replace H : (if t128.toList = (a0_3.extract ((ji38) : Int).toNat a0_3.size).toList then (some (5, a0_0, a0_1, wrap64 (bt a0_3 0), wrap64 (bt a0_3 1), a0_3.extract 2 ((ji38) : Int).toNat, 0)) else (some (5, a0_0, a0_1, wrap64 (bt a0_3 0), wrap64 (bt a0_3 1), a0_3.extract 2 ((ji38) : Int).toNat, 3))) = some (r1, r2, r3, r4, r5, r6, r7) := H; have A41 := sA A410; clear A410; have c42b0 := eq_true (of_decide_eq_true (by first | (with_reducible assumption) | assumption) : 0 ≤ (ji38)); have c43b0 := eq_true (of_decide_eq_true (by first | (with_reducible assumption) | assumption) : (ji38) ≤ (a0_3.size : Int))
        by_cases c44 : t128.toList = (a0_3.extract ((ji38) : Int).toNat a0_3.size).toList
        ·rw [if_pos c44] at H
         have c44b0 : (t128.toList == (a0_3.extract ((ji38) : Int).toNat a0_3.size).toList) = true := beq_iff_eq.mpr c44; have c44b1 : (t128.toList != (a0_3.extract ((ji38) : Int).toNat a0_3.size).toList) = false := bne_eq_false_iff_eq.mpr c44; clear c44
         simp only [Option.some.injEq, Prod.mk.injEq] at H
         obtain ⟨rfl, rfl, rfl, rfl, rfl, rfl, rfl⟩ := H
         go_enter Tryd.func34, Tryd.ntmps34
         try go_wp2_with (first | ((with_reducible refine gate_dst (N := 1) rfl ?_); refine boxK 1 #[.int .i64 a0_0, .int .i64 a0_1, .int .i64 a0_2, .string a0_3] 62 ?_; intro gb125 hg w45 hbox hb; have BK125 := sA hbox; have GW125 := bsz HB hg; have GE125 := bsz HB hg; replace HB := bst HB hb; clear hb hbox hg) | ((with_reducible refine gate_dst (N := 2) rfl ?_); refine boxK 2 #[.int .i64 0, .int .i64 0, .int .i64 0, .int .i64 0, .int .i64 0, .string (⟨#[]⟩ : ByteArray), .int .i64 0] 32 ?_; intro gb126 hg w46 hbox hb; have BK126 := sA hbox; have GW126 := bsz HB hg; have GE126 := bsz HB hg; have NB125_126 := bnl BK125 hg; have NB126_125 := bng BK125 hg; replace BK125 := sA (blkb BK125.out hb); replace HB := bst HB hb; clear hb hbox hg; have hnb47 := NB125_126.out; have hnc47 := NB126_125.out; obtain ⟨_,_,_,_,_,_,_,_⟩ := cQ4 BK125) | ((with_reducible refine gate_dst (N := 3) rfl ?_); refine boxK 3 #[.int .i64 0, .int .i64 0, .int .i64 0, .int .i64 0, .int .i64 0, .string (⟨#[]⟩ : ByteArray), .int .i64 0] 32 ?_; intro gb127 hg w49 hbox hb; have BK127 := sA hbox; have GW127 := bsz HB hg; have GE127 := bsz HB hg; have NB125_127 := bnl BK125 hg; have NB127_125 := bng BK125 hg; have NB126_127 := bnl BK126 hg; have NB127_126 := bng BK126 hg; replace BK125 := sA (blkb BK125.out hb); replace BK126 := sA (blkb BK126.out hb); replace HB := bst HB hb; clear hb hbox hg; have hnb50 := NB127_125.out; have hnc50 := NB125_127.out; have hnb51 := NB127_126.out; have hnc51 := NB126_127.out; obtain ⟨_,_,_,_,_,_,_,_,_,_,_,_,_,_⟩ := cQ7 BK127; obtain ⟨_,_,_,_,_,_,_,_⟩ := cQ4 BK125))
         have n0_ : Aside0 ((((((((w49.setCell ⟨gb127, 0, none⟩ (.int .i64 5)).setCell ⟨gb127, 1, none⟩ (.int .i64 a0_0)).setCell ⟨gb127, 2, none⟩ (.int .i64 a0_1)).setCell ⟨gb127, 3, none⟩ (.int .i64 0)).setCell ⟨gb127, 4, none⟩ (.int .i64 0)).setCell ⟨gb127, 5, none⟩ (.string a0_3)).setCell ⟨gb127, 6, none⟩ (.int .i64 8)).heap[gb125]? = some (.cells #[.int .i64 a0_0, .int .i64 a0_1, .int .i64 a0_2, .string a0_3] 62 (0, 0))) := ⟨by (repeat (with_reducible first | refine blk_far ?_ NB125_127.out _ | refine blk_drewN ?_ _ | refine blk_drew ?_ | refine blk_alloc ?_ _)); exact BK125.out⟩; have n1_ : Aside0 ((((((((w49.setCell ⟨gb127, 0, none⟩ (.int .i64 5)).setCell ⟨gb127, 1, none⟩ (.int .i64 a0_0)).setCell ⟨gb127, 2, none⟩ (.int .i64 a0_1)).setCell ⟨gb127, 3, none⟩ (.int .i64 0)).setCell ⟨gb127, 4, none⟩ (.int .i64 0)).setCell ⟨gb127, 5, none⟩ (.string a0_3)).setCell ⟨gb127, 6, none⟩ (.int .i64 8)).heap[gb126]? = some (.cells #[.int .i64 0, .int .i64 0, .int .i64 0, .int .i64 0, .int .i64 0, .string (⟨#[]⟩ : ByteArray), .int .i64 0] 32 (0, 0))) := ⟨by (repeat (with_reducible first | refine blk_far ?_ NB126_127.out _ | refine blk_drewN ?_ _ | refine blk_drew ?_ | refine blk_alloc ?_ _)); exact BK126.out⟩; have n2_ : Aside0 ((((((((w49.setCell ⟨gb127, 0, none⟩ (.int .i64 5)).setCell ⟨gb127, 1, none⟩ (.int .i64 a0_0)).setCell ⟨gb127, 2, none⟩ (.int .i64 a0_1)).setCell ⟨gb127, 3, none⟩ (.int .i64 0)).setCell ⟨gb127, 4, none⟩ (.int .i64 0)).setCell ⟨gb127, 5, none⟩ (.string a0_3)).setCell ⟨gb127, 6, none⟩ (.int .i64 8)).heap[gb127]? = some (.cells #[.int .i64 5, .int .i64 a0_0, .int .i64 a0_1, .int .i64 0, .int .i64 0, .string a0_3, .int .i64 8] 32 (0, 0))) := ⟨by (with_reducible repeat (first | refine blk_drewN ?_ _ | refine blk_drew ?_ | refine blk_alloc ?_ _)); refine blk_put7 (.int .i64 0) (.int .i64 0) (.int .i64 0) (.int .i64 0) (.int .i64 0) (.string (⟨#[]⟩ : ByteArray)) (.int .i64 0) ?_; (with_reducible repeat (first | refine blk_drewN ?_ _ | refine blk_drew ?_ | refine blk_alloc ?_ _)); exact BK127.out⟩; have n3_ : Aside0 (Below w.heap.size w (((((((w49.setCell ⟨gb127, 0, none⟩ (.int .i64 5)).setCell ⟨gb127, 1, none⟩ (.int .i64 a0_0)).setCell ⟨gb127, 2, none⟩ (.int .i64 a0_1)).setCell ⟨gb127, 3, none⟩ (.int .i64 0)).setCell ⟨gb127, 4, none⟩ (.int .i64 0)).setCell ⟨gb127, 5, none⟩ (.string a0_3)).setCell ⟨gb127, 6, none⟩ (.int .i64 8))) := ⟨hbw HB.out⟩; (try clear BK125); (try clear BK126); (try clear BK127); (try clear HB)
         generalize (((((((w49.setCell ⟨gb127, 0, none⟩ (.int .i64 5)).setCell ⟨gb127, 1, none⟩ (.int .i64 a0_0)).setCell ⟨gb127, 2, none⟩ (.int .i64 a0_1)).setCell ⟨gb127, 3, none⟩ (.int .i64 0)).setCell ⟨gb127, 4, none⟩ (.int .i64 0)).setCell ⟨gb127, 5, none⟩ (.string a0_3)).setCell ⟨gb127, 6, none⟩ (.int .i64 8)) = w54 at n0_ n1_ n2_ n3_ ⊢
         have BK125 := n0_; have BK126 := n1_; have BK127 := n2_; have HB := n3_; clear n0_ n1_ n2_ n3_; replace BK125 := sA (blk_drew BK125.out); replace BK126 := sA (blk_drew BK126.out); replace BK127 := sA (blk_drew BK127.out); replace HB := sA (below_drew1 HB.out); have p14 : 0 ≤ (0 : Int) := (by omega); have q14 : 0 < a0_3.size := (by have : (0 : Int) < (a0_3.size : Int) := of_decide_eq_true (by first | (with_reducible assumption) | assumption); omega); have hx14 : ∀ h : 0 < a0_3.size, ((a0_3[0]'h).toNat : Int) = bt a0_3 0 := bt_at a0_3 0; clear p14; have qi14 : (0 < (a0_3.size : Int)) = True := eq_true (of_decide_eq_true (by first | (with_reducible assumption) | assumption)); replace q14 := eq_true q14; have p16 : 0 ≤ (1 : Int) := (by omega); have q16 : 1 < a0_3.size := (by have : (1 : Int) < (a0_3.size : Int) := of_decide_eq_true (by first | (with_reducible assumption) | assumption); omega); have hx16 : ∀ h : 1 < a0_3.size, ((a0_3[1]'h).toNat : Int) = bt a0_3 1 := bt_at a0_3 1; clear p16; have qi16 : (1 < (a0_3.size : Int)) = True := eq_true (of_decide_eq_true (by first | (with_reducible assumption) | assumption)); replace q16 := eq_true q16; refine start_ (n := 12) (S := fun w' => w'.cell? ⟨gb125, 0, none⟩ = some (.int .i64 a0_0) ∧ w'.cell? ⟨gb125, 1, none⟩ = some (.int .i64 a0_1) ∧ w'.cell? ⟨gb125, 2, none⟩ = some (.int .i64 a0_2) ∧ w'.cell? ⟨gb125, 3, none⟩ = some (.string a0_3)) (ds := []) #[N_,N_,N_,N_,N_,N_,N_,N_,N_,N_,N_,N_] (by kernel_rfl) rfl rfl ⟨ck BK125 0, ck BK125 1, ck BK125 2, ck BK125 3⟩ (fun hHeld => ?_); refine with_tabW modbus_frame_complete.tab4 modbus_frame_complete.bits4 (fun HT_ HW_ => ?_)
         generalize w54.drew = w55 at BK125 BK126 BK127 HB hHeld ⊢
         refine pstep 0 (some 15) #[Y_,N_,N_,N_,N_,N_,N_,N_,N_,N_,N_,N_] HT_.out ?_; refine pstep 4 (some 19) #[Y_,N_,N_,N_,Y_,N_,N_,N_,N_,N_,N_,N_] HT_.out ?_; refine take_ (i := 1) (N := some 16) (v := ?_) (a' := ?_) #[Y_,Y_,N_,N_,Y_,N_,N_,N_,N_,N_,N_,N_] rfl rfl (take_ofW HT_.out HW_.out (by kernel_rfl)) (fun _ _ _ h => h) (Or.inl ⟨by rfl, ?_⟩) hHeld ?_ ?_; rotate_left
         ·rintro w' ⟨s0, s1, s2, s3⟩
          go_simp
          with_reducible rfl
         rotate_left
         ·simp only [Act.put, nrm]
          rfl
         refine take_ (i := 2) (N := some 17) (v := ?_) (a' := ?_) #[Y_,Y_,Y_,N_,Y_,N_,N_,N_,N_,N_,N_,N_] rfl rfl (take_ofW HT_.out HW_.out (by kernel_rfl)) (fun _ _ _ h => h) (Or.inl ⟨by rfl, ?_⟩) hHeld ?_ ?_; rotate_left
         ·rintro w' ⟨s0, s1, s2, s3⟩
          go_simp
          with_reducible rfl
         rotate_left
         ·simp only [Act.put, nrm]
          rfl
         refine pstep 3 (some 18) #[Y_,Y_,Y_,Y_,Y_,N_,N_,N_,N_,N_,N_,N_] HT_.out ?_; refine pstep 8 (some 23) #[Y_,Y_,Y_,Y_,Y_,N_,N_,N_,Y_,N_,N_,N_] HT_.out ?_; refine take_ (i := 5) (N := some 20) (v := ?_) (a' := ?_) #[Y_,Y_,Y_,Y_,Y_,Y_,N_,N_,Y_,N_,N_,N_] rfl rfl (take_ofW HT_.out HW_.out (by kernel_rfl)) (fun _ _ _ h => h) (Or.inl ⟨by rfl, ?_⟩) hHeld ?_ ?_; rotate_left
         ·rintro w' ⟨s0, s1, s2, s3⟩
          go_simp
          with_reducible rfl
         rotate_left
         ·simp only [Act.put, nrm]
          rfl
         refine take_ (i := 6) (N := some 21) (v := ?_) (a' := ?_) #[Y_,Y_,Y_,Y_,Y_,Y_,Y_,N_,Y_,N_,N_,N_] rfl rfl (take_ofW HT_.out HW_.out (by kernel_rfl)) (fun _ _ _ h => h) (Or.inl ⟨by rfl, ?_⟩) hHeld ?_ ?_; rotate_left
         ·rintro w' ⟨s0, s1, s2, s3⟩
          go_simp
          with_reducible rfl
         rotate_left
         ·simp only [Act.put, nrm]
          rfl
         refine pstep 7 (some 22) #[Y_,Y_,Y_,Y_,Y_,Y_,Y_,Y_,Y_,N_,N_,N_] HT_.out ?_; refine one_ (i := 9) (N := none) #[Y_,Y_,Y_,Y_,Y_,Y_,Y_,Y_,Y_,Y_,N_,N_] rfl rfl (one_of HT_.out (by kernel_rfl)) (by decide) (fun K hK => ?_); have hs56 : w55.cell? ⟨gb127, 3, none⟩ = some (.int .i64 0) := ck BK127 3; have hfs56 := blk_frozen BK127.out 3; have := NB125_127.out; have := NB126_127.out; have := NB127_125.out; have := NB127_126.out; refine skip_ (w1 := ?_) (by rfl) rfl ?_ ?_; rotate_left
         ·go_simp
          rfl
         refine hK.out _ _ ⟨((cell_far (p := ⟨gb127, _, none⟩) NB125_127.out _).trans (hHeld.1)), ((cell_far (p := ⟨gb127, _, none⟩) NB125_127.out _).trans (hHeld.2.1)), ((cell_far (p := ⟨gb127, _, none⟩) NB125_127.out _).trans (hHeld.2.2.1)), ((cell_far (p := ⟨gb127, _, none⟩) NB125_127.out _).trans (hHeld.2.2.2))⟩ (fun hHeld => ?_); clear hK K; refine pstep 10 (some 24) #[Y_,Y_,Y_,Y_,Y_,Y_,Y_,Y_,Y_,Y_,Y_,N_] HT_.out ?_; refine one_ (i := 11) (N := none) #[Y_,Y_,Y_,Y_,Y_,Y_,Y_,Y_,Y_,Y_,Y_,Y_] rfl rfl (one_of HT_.out (by kernel_rfl)) (by decide) (fun K hK => ?_); have hs57 : w55.cell? ⟨gb127, 4, none⟩ = some (.int .i64 0) := ck BK127 4; have hfs57 := blk_frozen BK127.out 4; have := NB125_127.out; have := NB126_127.out; have := NB127_125.out; have := NB127_126.out; refine skip_ (w1 := ?_) (by rfl) rfl ?_ ?_; rotate_left
         ·go_simp
          rfl
         refine hK.out _ _ ⟨((cell_far (p := ⟨gb127, _, none⟩) NB125_127.out _).trans (hHeld.1)), ((cell_far (p := ⟨gb127, _, none⟩) NB125_127.out _).trans (hHeld.2.1)), ((cell_far (p := ⟨gb127, _, none⟩) NB125_127.out _).trans (hHeld.2.2.1)), ((cell_far (p := ⟨gb127, _, none⟩) NB125_127.out _).trans (hHeld.2.2.2))⟩ (fun hHeld => ?_); clear hK K; refine done_ (done_of HT_.out (by kernel_rfl)) ?_; obtain ⟨_,_,_,_,_,_,_,_⟩ := cQ4 BK125; obtain ⟨_,_,_,_,_,_,_,_,_,_,_,_,_,_⟩ := cQ7 BK127
         try go_wp2
         have n0_ : Aside0 (((((w55.setCell ⟨gb127, 3, none⟩ (.int .i64 (wrap64 (bt a0_3 0)))).setCell ⟨gb127, 4, none⟩ (.int .i64 (wrap64 (bt a0_3 1)))).setCell ⟨gb127, 5, none⟩ (.string (a0_3.extract 2 ((ji38) : Int).toNat))).setCell ⟨gb127, 6, none⟩ (.int .i64 0)).heap[gb125]? = some (.cells #[.int .i64 a0_0, .int .i64 a0_1, .int .i64 a0_2, .string a0_3] 62 (0, 0))) := ⟨by (repeat (with_reducible first | refine blk_far ?_ NB125_127.out _ | refine blk_drewN ?_ _ | refine blk_drew ?_ | refine blk_alloc ?_ _)); exact BK125.out⟩; have n1_ : Aside0 (((((w55.setCell ⟨gb127, 3, none⟩ (.int .i64 (wrap64 (bt a0_3 0)))).setCell ⟨gb127, 4, none⟩ (.int .i64 (wrap64 (bt a0_3 1)))).setCell ⟨gb127, 5, none⟩ (.string (a0_3.extract 2 ((ji38) : Int).toNat))).setCell ⟨gb127, 6, none⟩ (.int .i64 0)).heap[gb126]? = some (.cells #[.int .i64 0, .int .i64 0, .int .i64 0, .int .i64 0, .int .i64 0, .string (⟨#[]⟩ : ByteArray), .int .i64 0] 32 (0, 0))) := ⟨by (repeat (with_reducible first | refine blk_far ?_ NB126_127.out _ | refine blk_drewN ?_ _ | refine blk_drew ?_ | refine blk_alloc ?_ _)); exact BK126.out⟩; have n2_ : Aside0 (((((w55.setCell ⟨gb127, 3, none⟩ (.int .i64 (wrap64 (bt a0_3 0)))).setCell ⟨gb127, 4, none⟩ (.int .i64 (wrap64 (bt a0_3 1)))).setCell ⟨gb127, 5, none⟩ (.string (a0_3.extract 2 ((ji38) : Int).toNat))).setCell ⟨gb127, 6, none⟩ (.int .i64 0)).heap[gb127]? = some (.cells #[.int .i64 5, .int .i64 a0_0, .int .i64 a0_1, .int .i64 (wrap64 (bt a0_3 0)), .int .i64 (wrap64 (bt a0_3 1)), .string (a0_3.extract 2 ((ji38) : Int).toNat), .int .i64 0] 32 (0, 0))) := ⟨by (with_reducible repeat (first | refine blk_drewN ?_ _ | refine blk_drew ?_ | refine blk_alloc ?_ _)); refine blk_put (cs := #[.int .i64 5, .int .i64 a0_0, .int .i64 a0_1, .int .i64 (wrap64 (bt a0_3 0)), .int .i64 (wrap64 (bt a0_3 1)), .string (a0_3.extract 2 ((ji38) : Int).toNat), .int .i64 8]) ?_ 6 _ rfl; (with_reducible repeat (first | refine blk_drewN ?_ _ | refine blk_drew ?_ | refine blk_alloc ?_ _)); refine blk_put (cs := #[.int .i64 5, .int .i64 a0_0, .int .i64 a0_1, .int .i64 (wrap64 (bt a0_3 0)), .int .i64 (wrap64 (bt a0_3 1)), .string a0_3, .int .i64 8]) ?_ 5 _ rfl; (with_reducible repeat (first | refine blk_drewN ?_ _ | refine blk_drew ?_ | refine blk_alloc ?_ _)); refine blk_put (cs := #[.int .i64 5, .int .i64 a0_0, .int .i64 a0_1, .int .i64 (wrap64 (bt a0_3 0)), .int .i64 0, .string a0_3, .int .i64 8]) ?_ 4 _ rfl; (with_reducible repeat (first | refine blk_drewN ?_ _ | refine blk_drew ?_ | refine blk_alloc ?_ _)); refine blk_put (cs := #[.int .i64 5, .int .i64 a0_0, .int .i64 a0_1, .int .i64 0, .int .i64 0, .string a0_3, .int .i64 8]) ?_ 3 _ rfl; (with_reducible repeat (first | refine blk_drewN ?_ _ | refine blk_drew ?_ | refine blk_alloc ?_ _)); exact BK127.out⟩; have n3_ : Aside0 (Below w.heap.size w ((((w55.setCell ⟨gb127, 3, none⟩ (.int .i64 (wrap64 (bt a0_3 0)))).setCell ⟨gb127, 4, none⟩ (.int .i64 (wrap64 (bt a0_3 1)))).setCell ⟨gb127, 5, none⟩ (.string (a0_3.extract 2 ((ji38) : Int).toNat))).setCell ⟨gb127, 6, none⟩ (.int .i64 0))) := ⟨hbw HB.out⟩
         (try clear BK125); (try clear BK126); (try clear BK127); (try clear HB)
         generalize ((((w55.setCell ⟨gb127, 3, none⟩ (.int .i64 (wrap64 (bt a0_3 0)))).setCell ⟨gb127, 4, none⟩ (.int .i64 (wrap64 (bt a0_3 1)))).setCell ⟨gb127, 5, none⟩ (.string (a0_3.extract 2 ((ji38) : Int).toNat))).setCell ⟨gb127, 6, none⟩ (.int .i64 0)) = w60 at n0_ n1_ n2_ n3_ ⊢
         have BK125 := n0_; have BK126 := n1_; have BK127 := n2_; have HB := n3_; clear n0_ n1_ n2_ n3_; replace BK125 := sA (blk_drew BK125.out); replace BK126 := sA (blk_drew BK126.out); replace BK127 := sA (blk_drew BK127.out); replace HB := sA (below_drew1 HB.out); refine start_ (n := 14) (S := fun w' => w'.cell? ⟨gb125, 0, none⟩ = some (.int .i64 a0_0) ∧ w'.cell? ⟨gb125, 1, none⟩ = some (.int .i64 a0_1) ∧ w'.cell? ⟨gb125, 2, none⟩ = some (.int .i64 a0_2) ∧ w'.cell? ⟨gb125, 3, none⟩ = some (.string a0_3)) (ds := []) #[N_,N_,N_,N_,N_,N_,N_,N_,N_,N_,N_,N_,N_,N_] (by kernel_rfl) rfl rfl ⟨ck BK125 0, ck BK125 1, ck BK125 2, ck BK125 3⟩ (fun hHeld => ?_); refine with_tabW modbus_frame_complete.tab9 modbus_frame_complete.bits9 (fun HT_ HW_ => ?_)
         generalize w60.drew = w61 at BK125 BK126 BK127 HB hHeld ⊢
         refine pstep 0 (some 41) #[Y_,N_,N_,N_,N_,N_,N_,N_,N_,N_,N_,N_,N_,N_] HT_.out ?_; refine pstep 2 (some 43) #[Y_,N_,Y_,N_,N_,N_,N_,N_,N_,N_,N_,N_,N_,N_] HT_.out ?_; refine pstep 7 (some 48) #[Y_,N_,Y_,N_,N_,N_,N_,Y_,N_,N_,N_,N_,N_,N_] HT_.out ?_; refine pstep 9 (some 50) #[Y_,N_,Y_,N_,N_,N_,N_,Y_,N_,Y_,N_,N_,N_,N_] HT_.out ?_; refine take_ (i := 1) (N := some 42) (v := ?_) (a' := ?_) #[Y_,Y_,Y_,N_,N_,N_,N_,Y_,N_,Y_,N_,N_,N_,N_] rfl rfl (take_ofW HT_.out HW_.out (by kernel_rfl)) (fun _ _ _ h => h) (Or.inl ⟨by rfl, ?_⟩) hHeld ?_ ?_; rotate_left
         ·rintro w' ⟨s0, s1, s2, s3⟩
          go_simp
          with_reducible rfl
         rotate_left
         ·simp only [Act.put, nrm]
          rfl
         refine take_ (i := 3) (N := some 44) (v := ?_) (a' := ?_) #[Y_,Y_,Y_,Y_,N_,N_,N_,Y_,N_,Y_,N_,N_,N_,N_] rfl rfl (take_ofW HT_.out HW_.out (by kernel_rfl)) (fun _ _ _ h => h) (Or.inl ⟨by rfl, ?_⟩) hHeld ?_ ?_; rotate_left
         ·rintro w' ⟨s0, s1, s2, s3⟩
          go_simp
          with_reducible rfl
         rotate_left
         ·simp only [Act.put, nrm]
          rfl
         refine pstep 4 (some 45) #[Y_,Y_,Y_,Y_,Y_,N_,N_,Y_,N_,Y_,N_,N_,N_,N_] HT_.out ?_; refine pstep 5 (some 46) #[Y_,Y_,Y_,Y_,Y_,Y_,N_,Y_,N_,Y_,N_,N_,N_,N_] HT_.out ?_; refine take_ (i := 8) (N := some 49) (v := ?_) (a' := ?_) #[Y_,Y_,Y_,Y_,Y_,Y_,N_,Y_,Y_,Y_,N_,N_,N_,N_] rfl rfl (take_ofW HT_.out HW_.out (by kernel_rfl)) (fun _ _ _ h => h) (Or.inl ⟨by rfl, ?_⟩) hHeld ?_ ?_; rotate_left
         ·rintro w' ⟨s0, s1, s2, s3⟩
          go_simp
          with_reducible rfl
         rotate_left
         ·simp only [Act.put, nrm]
          rfl
         refine take_ (i := 10) (N := some 51) (v := ?_) (a' := ?_) #[Y_,Y_,Y_,Y_,Y_,Y_,N_,Y_,Y_,Y_,Y_,N_,N_,N_] rfl rfl (take_ofW HT_.out HW_.out (by kernel_rfl)) (fun _ _ _ h => h) (Or.inl ⟨by rfl, ?_⟩) hHeld ?_ ?_; rotate_left
         ·rintro w' ⟨s0, s1, s2, s3⟩
          go_simp
          with_reducible rfl
         rotate_left
         ·simp only [Act.put, nrm]
          rfl
         refine pstep 11 (some 52) #[Y_,Y_,Y_,Y_,Y_,Y_,N_,Y_,Y_,Y_,Y_,Y_,N_,N_] HT_.out ?_; refine pstep 12 (some 53) #[Y_,Y_,Y_,Y_,Y_,Y_,N_,Y_,Y_,Y_,Y_,Y_,Y_,N_] HT_.out ?_; refine one_ (i := 6) (N := some 47) #[Y_,Y_,Y_,Y_,Y_,Y_,Y_,Y_,Y_,Y_,Y_,Y_,Y_,N_] rfl rfl (one_of HT_.out (by kernel_rfl)) (by decide) (fun K hK => ?_); refine goes_ Tryd.func37 (by kernel_rfl) rfl #[.string (a0_3.extract 0 ((ji38) : Int).toNat)] (by rfl) rfl rfl (by (try simp only [List.map_toArray, List.map_cons, List.map_nil]); first | done | (simp only [hji38]; rfl) | rfl | (simp only [List.length_drop, List.length_take]; rfl)) ?_; (with_reducible refine (modbus_sum.calls k (a0_3.extract 0 ((ji38) : Int).toNat) t128 _ ?side1 A41.out).mono ?_)
         (case side1 => refine TabOk.below hT_ ?_; repeat (first | (with_reducible first | exact HB.out | apply below_alloc | apply pw_below_drewN | apply below_drew1 | refine below_set ?_ GE125.out | refine below_set ?_ GE126.out | refine below_set ?_ GE127.out) | exact HB.out))
         rintro e w62 ⟨rfl, hb⟩; refine ⟨_, rfl, ?_⟩; replace BK125 := bkB BK125 hb; replace BK126 := bkB BK126 hb; replace BK127 := bkB BK127 hb; replace HB := bst HB hb; (try clear hb); refine hK.out _ _ ⟨ck BK125 0, ck BK125 1, ck BK125 2, ck BK125 3⟩ (fun hHeld => ?_); clear hK K; refine norm_ (a' := ?_) ?_ ?_; rotate_left
         ·show Act.put _ (some 47) _ = _
          simp only [Act.put, nrm]
          rfl
         refine pstep 13 (some 54) #[Y_,Y_,Y_,Y_,Y_,Y_,Y_,Y_,Y_,Y_,Y_,Y_,Y_,Y_] HT_.out ?_; refine done_ (done_of HT_.out (by kernel_rfl)) ?_; obtain ⟨_,_,_,_,_,_,_,_,_,_,_,_,_,_⟩ := cQ7 BK127; obtain ⟨_,_,_,_,_,_,_,_,_,_,_,_,_,_⟩ := cQ7 BK126
         try go_wp2
         refine bodyPost_ret (results_cell_row rfl _ _ gb126 32 #[.int .i64 5, .int .i64 a0_0, .int .i64 a0_1, .int .i64 (wrap64 (bt a0_3 0)), .int .i64 (wrap64 (bt a0_3 1)), .string (a0_3.extract 2 ((ji38) : Int).toNat), .int .i64 0] (0, 0) _ rfl (by (with_reducible repeat (first | refine blk_drewN ?_ _ | refine blk_drew ?_ | refine blk_alloc ?_ _)); refine blk_put7 (.int .i64 0) (.int .i64 0) (.int .i64 0) (.int .i64 0) (.int .i64 0) (.string (⟨#[]⟩ : ByteArray)) (.int .i64 0) ?_; (with_reducible repeat (first | refine blk_drewN ?_ _ | refine blk_drew ?_ | refine blk_alloc ?_ _)); exact BK126.out) Tryd.underlying32 rfl (by kernel_rfl)) rfl ?_
         exact ⟨by first | rfl | (simp [errW_none, errW_some] <;> rfl) | (simp only [← hji38]; first | rfl | (simp [errW_none, errW_some] <;> rfl)) | (simp [*, errW_none, errW_some] <;> rfl), hbw HB.out⟩
        ·rw [if_neg c44] at H
         have c44b0 : (t128.toList == (a0_3.extract ((ji38) : Int).toNat a0_3.size).toList) = false := beq_eq_false_iff_ne.mpr c44; have c44b1 : (t128.toList != (a0_3.extract ((ji38) : Int).toNat a0_3.size).toList) = true := bne_iff_ne.mpr c44
         simp only [Option.some.injEq, Prod.mk.injEq] at H
         obtain ⟨rfl, rfl, rfl, rfl, rfl, rfl, rfl⟩ := H
         go_enter Tryd.func34, Tryd.ntmps34
         try go_wp2_with (first | ((with_reducible refine gate_dst (N := 1) rfl ?_); refine boxK 1 #[.int .i64 a0_0, .int .i64 a0_1, .int .i64 a0_2, .string a0_3] 62 ?_; intro gb125 hg w65 hbox hb; have BK125 := sA hbox; have GW125 := bsz HB hg; have GE125 := bsz HB hg; replace HB := bst HB hb; clear hb hbox hg) | ((with_reducible refine gate_dst (N := 2) rfl ?_); refine boxK 2 #[.int .i64 0, .int .i64 0, .int .i64 0, .int .i64 0, .int .i64 0, .string (⟨#[]⟩ : ByteArray), .int .i64 0] 32 ?_; intro gb126 hg w66 hbox hb; have BK126 := sA hbox; have GW126 := bsz HB hg; have GE126 := bsz HB hg; have NB125_126 := bnl BK125 hg; have NB126_125 := bng BK125 hg; replace BK125 := sA (blkb BK125.out hb); replace HB := bst HB hb; clear hb hbox hg; have hnb67 := NB125_126.out; have hnc67 := NB126_125.out; obtain ⟨_,_,_,_,_,_,_,_⟩ := cQ4 BK125) | ((with_reducible refine gate_dst (N := 3) rfl ?_); refine boxK 3 #[.int .i64 0, .int .i64 0, .int .i64 0, .int .i64 0, .int .i64 0, .string (⟨#[]⟩ : ByteArray), .int .i64 0] 32 ?_; intro gb127 hg w69 hbox hb; have BK127 := sA hbox; have GW127 := bsz HB hg; have GE127 := bsz HB hg; have NB125_127 := bnl BK125 hg; have NB127_125 := bng BK125 hg; have NB126_127 := bnl BK126 hg; have NB127_126 := bng BK126 hg; replace BK125 := sA (blkb BK125.out hb); replace BK126 := sA (blkb BK126.out hb); replace HB := bst HB hb; clear hb hbox hg; have hnb70 := NB127_125.out; have hnc70 := NB125_127.out; have hnb71 := NB127_126.out; have hnc71 := NB126_127.out; obtain ⟨_,_,_,_,_,_,_,_,_,_,_,_,_,_⟩ := cQ7 BK127; obtain ⟨_,_,_,_,_,_,_,_⟩ := cQ4 BK125))
         have n0_ : Aside0 ((((((((w69.setCell ⟨gb127, 0, none⟩ (.int .i64 5)).setCell ⟨gb127, 1, none⟩ (.int .i64 a0_0)).setCell ⟨gb127, 2, none⟩ (.int .i64 a0_1)).setCell ⟨gb127, 3, none⟩ (.int .i64 0)).setCell ⟨gb127, 4, none⟩ (.int .i64 0)).setCell ⟨gb127, 5, none⟩ (.string a0_3)).setCell ⟨gb127, 6, none⟩ (.int .i64 8)).heap[gb125]? = some (.cells #[.int .i64 a0_0, .int .i64 a0_1, .int .i64 a0_2, .string a0_3] 62 (0, 0))) := ⟨by (repeat (with_reducible first | refine blk_far ?_ NB125_127.out _ | refine blk_drewN ?_ _ | refine blk_drew ?_ | refine blk_alloc ?_ _)); exact BK125.out⟩; have n1_ : Aside0 ((((((((w69.setCell ⟨gb127, 0, none⟩ (.int .i64 5)).setCell ⟨gb127, 1, none⟩ (.int .i64 a0_0)).setCell ⟨gb127, 2, none⟩ (.int .i64 a0_1)).setCell ⟨gb127, 3, none⟩ (.int .i64 0)).setCell ⟨gb127, 4, none⟩ (.int .i64 0)).setCell ⟨gb127, 5, none⟩ (.string a0_3)).setCell ⟨gb127, 6, none⟩ (.int .i64 8)).heap[gb126]? = some (.cells #[.int .i64 0, .int .i64 0, .int .i64 0, .int .i64 0, .int .i64 0, .string (⟨#[]⟩ : ByteArray), .int .i64 0] 32 (0, 0))) := ⟨by (repeat (with_reducible first | refine blk_far ?_ NB126_127.out _ | refine blk_drewN ?_ _ | refine blk_drew ?_ | refine blk_alloc ?_ _)); exact BK126.out⟩; have n2_ : Aside0 ((((((((w69.setCell ⟨gb127, 0, none⟩ (.int .i64 5)).setCell ⟨gb127, 1, none⟩ (.int .i64 a0_0)).setCell ⟨gb127, 2, none⟩ (.int .i64 a0_1)).setCell ⟨gb127, 3, none⟩ (.int .i64 0)).setCell ⟨gb127, 4, none⟩ (.int .i64 0)).setCell ⟨gb127, 5, none⟩ (.string a0_3)).setCell ⟨gb127, 6, none⟩ (.int .i64 8)).heap[gb127]? = some (.cells #[.int .i64 5, .int .i64 a0_0, .int .i64 a0_1, .int .i64 0, .int .i64 0, .string a0_3, .int .i64 8] 32 (0, 0))) := ⟨by (with_reducible repeat (first | refine blk_drewN ?_ _ | refine blk_drew ?_ | refine blk_alloc ?_ _)); refine blk_put7 (.int .i64 0) (.int .i64 0) (.int .i64 0) (.int .i64 0) (.int .i64 0) (.string (⟨#[]⟩ : ByteArray)) (.int .i64 0) ?_; (with_reducible repeat (first | refine blk_drewN ?_ _ | refine blk_drew ?_ | refine blk_alloc ?_ _)); exact BK127.out⟩; have n3_ : Aside0 (Below w.heap.size w (((((((w69.setCell ⟨gb127, 0, none⟩ (.int .i64 5)).setCell ⟨gb127, 1, none⟩ (.int .i64 a0_0)).setCell ⟨gb127, 2, none⟩ (.int .i64 a0_1)).setCell ⟨gb127, 3, none⟩ (.int .i64 0)).setCell ⟨gb127, 4, none⟩ (.int .i64 0)).setCell ⟨gb127, 5, none⟩ (.string a0_3)).setCell ⟨gb127, 6, none⟩ (.int .i64 8))) := ⟨hbw HB.out⟩; (try clear BK125); (try clear BK126); (try clear BK127); (try clear HB)
         generalize (((((((w69.setCell ⟨gb127, 0, none⟩ (.int .i64 5)).setCell ⟨gb127, 1, none⟩ (.int .i64 a0_0)).setCell ⟨gb127, 2, none⟩ (.int .i64 a0_1)).setCell ⟨gb127, 3, none⟩ (.int .i64 0)).setCell ⟨gb127, 4, none⟩ (.int .i64 0)).setCell ⟨gb127, 5, none⟩ (.string a0_3)).setCell ⟨gb127, 6, none⟩ (.int .i64 8)) = w74 at n0_ n1_ n2_ n3_ ⊢
         have BK125 := n0_; have BK126 := n1_; have BK127 := n2_; have HB := n3_; clear n0_ n1_ n2_ n3_; replace BK125 := sA (blk_drew BK125.out); replace BK126 := sA (blk_drew BK126.out); replace BK127 := sA (blk_drew BK127.out); replace HB := sA (below_drew1 HB.out); have p14 : 0 ≤ (0 : Int) := (by omega); have q14 : 0 < a0_3.size := (by have : (0 : Int) < (a0_3.size : Int) := of_decide_eq_true (by first | (with_reducible assumption) | assumption); omega); have hx14 : ∀ h : 0 < a0_3.size, ((a0_3[0]'h).toNat : Int) = bt a0_3 0 := bt_at a0_3 0; clear p14; have qi14 : (0 < (a0_3.size : Int)) = True := eq_true (of_decide_eq_true (by first | (with_reducible assumption) | assumption)); replace q14 := eq_true q14; have p16 : 0 ≤ (1 : Int) := (by omega); have q16 : 1 < a0_3.size := (by have : (1 : Int) < (a0_3.size : Int) := of_decide_eq_true (by first | (with_reducible assumption) | assumption); omega); have hx16 : ∀ h : 1 < a0_3.size, ((a0_3[1]'h).toNat : Int) = bt a0_3 1 := bt_at a0_3 1; clear p16; have qi16 : (1 < (a0_3.size : Int)) = True := eq_true (of_decide_eq_true (by first | (with_reducible assumption) | assumption)); replace q16 := eq_true q16; refine start_ (n := 12) (S := fun w' => w'.cell? ⟨gb125, 0, none⟩ = some (.int .i64 a0_0) ∧ w'.cell? ⟨gb125, 1, none⟩ = some (.int .i64 a0_1) ∧ w'.cell? ⟨gb125, 2, none⟩ = some (.int .i64 a0_2) ∧ w'.cell? ⟨gb125, 3, none⟩ = some (.string a0_3)) (ds := []) #[N_,N_,N_,N_,N_,N_,N_,N_,N_,N_,N_,N_] (by kernel_rfl) rfl rfl ⟨ck BK125 0, ck BK125 1, ck BK125 2, ck BK125 3⟩ (fun hHeld => ?_); refine with_tabW modbus_frame_complete.tab4 modbus_frame_complete.bits4 (fun HT_ HW_ => ?_)
         generalize w74.drew = w75 at BK125 BK126 BK127 HB hHeld ⊢
         refine pstep 0 (some 15) #[Y_,N_,N_,N_,N_,N_,N_,N_,N_,N_,N_,N_] HT_.out ?_; refine pstep 4 (some 19) #[Y_,N_,N_,N_,Y_,N_,N_,N_,N_,N_,N_,N_] HT_.out ?_; refine take_ (i := 1) (N := some 16) (v := ?_) (a' := ?_) #[Y_,Y_,N_,N_,Y_,N_,N_,N_,N_,N_,N_,N_] rfl rfl (take_ofW HT_.out HW_.out (by kernel_rfl)) (fun _ _ _ h => h) (Or.inl ⟨by rfl, ?_⟩) hHeld ?_ ?_; rotate_left
         ·rintro w' ⟨s0, s1, s2, s3⟩
          go_simp
          with_reducible rfl
         rotate_left
         ·simp only [Act.put, nrm]
          rfl
         refine take_ (i := 2) (N := some 17) (v := ?_) (a' := ?_) #[Y_,Y_,Y_,N_,Y_,N_,N_,N_,N_,N_,N_,N_] rfl rfl (take_ofW HT_.out HW_.out (by kernel_rfl)) (fun _ _ _ h => h) (Or.inl ⟨by rfl, ?_⟩) hHeld ?_ ?_; rotate_left
         ·rintro w' ⟨s0, s1, s2, s3⟩
          go_simp
          with_reducible rfl
         rotate_left
         ·simp only [Act.put, nrm]
          rfl
         refine pstep 3 (some 18) #[Y_,Y_,Y_,Y_,Y_,N_,N_,N_,N_,N_,N_,N_] HT_.out ?_; refine pstep 8 (some 23) #[Y_,Y_,Y_,Y_,Y_,N_,N_,N_,Y_,N_,N_,N_] HT_.out ?_; refine take_ (i := 5) (N := some 20) (v := ?_) (a' := ?_) #[Y_,Y_,Y_,Y_,Y_,Y_,N_,N_,Y_,N_,N_,N_] rfl rfl (take_ofW HT_.out HW_.out (by kernel_rfl)) (fun _ _ _ h => h) (Or.inl ⟨by rfl, ?_⟩) hHeld ?_ ?_; rotate_left
         ·rintro w' ⟨s0, s1, s2, s3⟩
          go_simp
          with_reducible rfl
         rotate_left
         ·simp only [Act.put, nrm]
          rfl
         refine take_ (i := 6) (N := some 21) (v := ?_) (a' := ?_) #[Y_,Y_,Y_,Y_,Y_,Y_,Y_,N_,Y_,N_,N_,N_] rfl rfl (take_ofW HT_.out HW_.out (by kernel_rfl)) (fun _ _ _ h => h) (Or.inl ⟨by rfl, ?_⟩) hHeld ?_ ?_; rotate_left
         ·rintro w' ⟨s0, s1, s2, s3⟩
          go_simp
          with_reducible rfl
         rotate_left
         ·simp only [Act.put, nrm]
          rfl
         refine pstep 7 (some 22) #[Y_,Y_,Y_,Y_,Y_,Y_,Y_,Y_,Y_,N_,N_,N_] HT_.out ?_; refine one_ (i := 9) (N := none) #[Y_,Y_,Y_,Y_,Y_,Y_,Y_,Y_,Y_,Y_,N_,N_] rfl rfl (one_of HT_.out (by kernel_rfl)) (by decide) (fun K hK => ?_); have hs76 : w75.cell? ⟨gb127, 3, none⟩ = some (.int .i64 0) := ck BK127 3; have hfs76 := blk_frozen BK127.out 3; have := NB125_127.out; have := NB126_127.out; have := NB127_125.out; have := NB127_126.out; refine skip_ (w1 := ?_) (by rfl) rfl ?_ ?_; rotate_left
         ·go_simp
          rfl
         refine hK.out _ _ ⟨((cell_far (p := ⟨gb127, _, none⟩) NB125_127.out _).trans (hHeld.1)), ((cell_far (p := ⟨gb127, _, none⟩) NB125_127.out _).trans (hHeld.2.1)), ((cell_far (p := ⟨gb127, _, none⟩) NB125_127.out _).trans (hHeld.2.2.1)), ((cell_far (p := ⟨gb127, _, none⟩) NB125_127.out _).trans (hHeld.2.2.2))⟩ (fun hHeld => ?_); clear hK K; refine pstep 10 (some 24) #[Y_,Y_,Y_,Y_,Y_,Y_,Y_,Y_,Y_,Y_,Y_,N_] HT_.out ?_; refine one_ (i := 11) (N := none) #[Y_,Y_,Y_,Y_,Y_,Y_,Y_,Y_,Y_,Y_,Y_,Y_] rfl rfl (one_of HT_.out (by kernel_rfl)) (by decide) (fun K hK => ?_); have hs77 : w75.cell? ⟨gb127, 4, none⟩ = some (.int .i64 0) := ck BK127 4; have hfs77 := blk_frozen BK127.out 4; have := NB125_127.out; have := NB126_127.out; have := NB127_125.out; have := NB127_126.out; refine skip_ (w1 := ?_) (by rfl) rfl ?_ ?_; rotate_left
         ·go_simp
          rfl
         refine hK.out _ _ ⟨((cell_far (p := ⟨gb127, _, none⟩) NB125_127.out _).trans (hHeld.1)), ((cell_far (p := ⟨gb127, _, none⟩) NB125_127.out _).trans (hHeld.2.1)), ((cell_far (p := ⟨gb127, _, none⟩) NB125_127.out _).trans (hHeld.2.2.1)), ((cell_far (p := ⟨gb127, _, none⟩) NB125_127.out _).trans (hHeld.2.2.2))⟩ (fun hHeld => ?_); clear hK K; refine done_ (done_of HT_.out (by kernel_rfl)) ?_; obtain ⟨_,_,_,_,_,_,_,_⟩ := cQ4 BK125; obtain ⟨_,_,_,_,_,_,_,_,_,_,_,_,_,_⟩ := cQ7 BK127
         try go_wp2
         have n0_ : Aside0 (((((w75.setCell ⟨gb127, 3, none⟩ (.int .i64 (wrap64 (bt a0_3 0)))).setCell ⟨gb127, 4, none⟩ (.int .i64 (wrap64 (bt a0_3 1)))).setCell ⟨gb127, 5, none⟩ (.string (a0_3.extract 2 ((ji38) : Int).toNat))).setCell ⟨gb127, 6, none⟩ (.int .i64 0)).heap[gb125]? = some (.cells #[.int .i64 a0_0, .int .i64 a0_1, .int .i64 a0_2, .string a0_3] 62 (0, 0))) := ⟨by (repeat (with_reducible first | refine blk_far ?_ NB125_127.out _ | refine blk_drewN ?_ _ | refine blk_drew ?_ | refine blk_alloc ?_ _)); exact BK125.out⟩; have n1_ : Aside0 (((((w75.setCell ⟨gb127, 3, none⟩ (.int .i64 (wrap64 (bt a0_3 0)))).setCell ⟨gb127, 4, none⟩ (.int .i64 (wrap64 (bt a0_3 1)))).setCell ⟨gb127, 5, none⟩ (.string (a0_3.extract 2 ((ji38) : Int).toNat))).setCell ⟨gb127, 6, none⟩ (.int .i64 0)).heap[gb126]? = some (.cells #[.int .i64 0, .int .i64 0, .int .i64 0, .int .i64 0, .int .i64 0, .string (⟨#[]⟩ : ByteArray), .int .i64 0] 32 (0, 0))) := ⟨by (repeat (with_reducible first | refine blk_far ?_ NB126_127.out _ | refine blk_drewN ?_ _ | refine blk_drew ?_ | refine blk_alloc ?_ _)); exact BK126.out⟩; have n2_ : Aside0 (((((w75.setCell ⟨gb127, 3, none⟩ (.int .i64 (wrap64 (bt a0_3 0)))).setCell ⟨gb127, 4, none⟩ (.int .i64 (wrap64 (bt a0_3 1)))).setCell ⟨gb127, 5, none⟩ (.string (a0_3.extract 2 ((ji38) : Int).toNat))).setCell ⟨gb127, 6, none⟩ (.int .i64 0)).heap[gb127]? = some (.cells #[.int .i64 5, .int .i64 a0_0, .int .i64 a0_1, .int .i64 (wrap64 (bt a0_3 0)), .int .i64 (wrap64 (bt a0_3 1)), .string (a0_3.extract 2 ((ji38) : Int).toNat), .int .i64 0] 32 (0, 0))) := ⟨by (with_reducible repeat (first | refine blk_drewN ?_ _ | refine blk_drew ?_ | refine blk_alloc ?_ _)); refine blk_put (cs := #[.int .i64 5, .int .i64 a0_0, .int .i64 a0_1, .int .i64 (wrap64 (bt a0_3 0)), .int .i64 (wrap64 (bt a0_3 1)), .string (a0_3.extract 2 ((ji38) : Int).toNat), .int .i64 8]) ?_ 6 _ rfl; (with_reducible repeat (first | refine blk_drewN ?_ _ | refine blk_drew ?_ | refine blk_alloc ?_ _)); refine blk_put (cs := #[.int .i64 5, .int .i64 a0_0, .int .i64 a0_1, .int .i64 (wrap64 (bt a0_3 0)), .int .i64 (wrap64 (bt a0_3 1)), .string a0_3, .int .i64 8]) ?_ 5 _ rfl; (with_reducible repeat (first | refine blk_drewN ?_ _ | refine blk_drew ?_ | refine blk_alloc ?_ _)); refine blk_put (cs := #[.int .i64 5, .int .i64 a0_0, .int .i64 a0_1, .int .i64 (wrap64 (bt a0_3 0)), .int .i64 0, .string a0_3, .int .i64 8]) ?_ 4 _ rfl; (with_reducible repeat (first | refine blk_drewN ?_ _ | refine blk_drew ?_ | refine blk_alloc ?_ _)); refine blk_put (cs := #[.int .i64 5, .int .i64 a0_0, .int .i64 a0_1, .int .i64 0, .int .i64 0, .string a0_3, .int .i64 8]) ?_ 3 _ rfl; (with_reducible repeat (first | refine blk_drewN ?_ _ | refine blk_drew ?_ | refine blk_alloc ?_ _)); exact BK127.out⟩; have n3_ : Aside0 (Below w.heap.size w ((((w75.setCell ⟨gb127, 3, none⟩ (.int .i64 (wrap64 (bt a0_3 0)))).setCell ⟨gb127, 4, none⟩ (.int .i64 (wrap64 (bt a0_3 1)))).setCell ⟨gb127, 5, none⟩ (.string (a0_3.extract 2 ((ji38) : Int).toNat))).setCell ⟨gb127, 6, none⟩ (.int .i64 0))) := ⟨hbw HB.out⟩
         (try clear BK125); (try clear BK126); (try clear BK127); (try clear HB)
         generalize ((((w75.setCell ⟨gb127, 3, none⟩ (.int .i64 (wrap64 (bt a0_3 0)))).setCell ⟨gb127, 4, none⟩ (.int .i64 (wrap64 (bt a0_3 1)))).setCell ⟨gb127, 5, none⟩ (.string (a0_3.extract 2 ((ji38) : Int).toNat))).setCell ⟨gb127, 6, none⟩ (.int .i64 0)) = w80 at n0_ n1_ n2_ n3_ ⊢
         have BK125 := n0_; have BK126 := n1_; have BK127 := n2_; have HB := n3_; clear n0_ n1_ n2_ n3_; replace BK125 := sA (blk_drew BK125.out); replace BK126 := sA (blk_drew BK126.out); replace BK127 := sA (blk_drew BK127.out); replace HB := sA (below_drew1 HB.out); refine start_ (n := 14) (S := fun w' => w'.cell? ⟨gb125, 0, none⟩ = some (.int .i64 a0_0) ∧ w'.cell? ⟨gb125, 1, none⟩ = some (.int .i64 a0_1) ∧ w'.cell? ⟨gb125, 2, none⟩ = some (.int .i64 a0_2) ∧ w'.cell? ⟨gb125, 3, none⟩ = some (.string a0_3)) (ds := []) #[N_,N_,N_,N_,N_,N_,N_,N_,N_,N_,N_,N_,N_,N_] (by kernel_rfl) rfl rfl ⟨ck BK125 0, ck BK125 1, ck BK125 2, ck BK125 3⟩ (fun hHeld => ?_); refine with_tabW modbus_frame_complete.tab9 modbus_frame_complete.bits9 (fun HT_ HW_ => ?_)
         generalize w80.drew = w81 at BK125 BK126 BK127 HB hHeld ⊢
         refine pstep 0 (some 41) #[Y_,N_,N_,N_,N_,N_,N_,N_,N_,N_,N_,N_,N_,N_] HT_.out ?_; refine pstep 2 (some 43) #[Y_,N_,Y_,N_,N_,N_,N_,N_,N_,N_,N_,N_,N_,N_] HT_.out ?_; refine pstep 7 (some 48) #[Y_,N_,Y_,N_,N_,N_,N_,Y_,N_,N_,N_,N_,N_,N_] HT_.out ?_; refine pstep 9 (some 50) #[Y_,N_,Y_,N_,N_,N_,N_,Y_,N_,Y_,N_,N_,N_,N_] HT_.out ?_; refine take_ (i := 1) (N := some 42) (v := ?_) (a' := ?_) #[Y_,Y_,Y_,N_,N_,N_,N_,Y_,N_,Y_,N_,N_,N_,N_] rfl rfl (take_ofW HT_.out HW_.out (by kernel_rfl)) (fun _ _ _ h => h) (Or.inl ⟨by rfl, ?_⟩) hHeld ?_ ?_; rotate_left
         ·rintro w' ⟨s0, s1, s2, s3⟩
          go_simp
          with_reducible rfl
         rotate_left
         ·simp only [Act.put, nrm]
          rfl
         refine take_ (i := 3) (N := some 44) (v := ?_) (a' := ?_) #[Y_,Y_,Y_,Y_,N_,N_,N_,Y_,N_,Y_,N_,N_,N_,N_] rfl rfl (take_ofW HT_.out HW_.out (by kernel_rfl)) (fun _ _ _ h => h) (Or.inl ⟨by rfl, ?_⟩) hHeld ?_ ?_; rotate_left
         ·rintro w' ⟨s0, s1, s2, s3⟩
          go_simp
          with_reducible rfl
         rotate_left
         ·simp only [Act.put, nrm]
          rfl
         refine pstep 4 (some 45) #[Y_,Y_,Y_,Y_,Y_,N_,N_,Y_,N_,Y_,N_,N_,N_,N_] HT_.out ?_; refine pstep 5 (some 46) #[Y_,Y_,Y_,Y_,Y_,Y_,N_,Y_,N_,Y_,N_,N_,N_,N_] HT_.out ?_; refine take_ (i := 8) (N := some 49) (v := ?_) (a' := ?_) #[Y_,Y_,Y_,Y_,Y_,Y_,N_,Y_,Y_,Y_,N_,N_,N_,N_] rfl rfl (take_ofW HT_.out HW_.out (by kernel_rfl)) (fun _ _ _ h => h) (Or.inl ⟨by rfl, ?_⟩) hHeld ?_ ?_; rotate_left
         ·rintro w' ⟨s0, s1, s2, s3⟩
          go_simp
          with_reducible rfl
         rotate_left
         ·simp only [Act.put, nrm]
          rfl
         refine take_ (i := 10) (N := some 51) (v := ?_) (a' := ?_) #[Y_,Y_,Y_,Y_,Y_,Y_,N_,Y_,Y_,Y_,Y_,N_,N_,N_] rfl rfl (take_ofW HT_.out HW_.out (by kernel_rfl)) (fun _ _ _ h => h) (Or.inl ⟨by rfl, ?_⟩) hHeld ?_ ?_; rotate_left
         ·rintro w' ⟨s0, s1, s2, s3⟩
          go_simp
          with_reducible rfl
         rotate_left
         ·simp only [Act.put, nrm]
          rfl
         refine pstep 11 (some 52) #[Y_,Y_,Y_,Y_,Y_,Y_,N_,Y_,Y_,Y_,Y_,Y_,N_,N_] HT_.out ?_; refine pstep 12 (some 53) #[Y_,Y_,Y_,Y_,Y_,Y_,N_,Y_,Y_,Y_,Y_,Y_,Y_,N_] HT_.out ?_; refine one_ (i := 6) (N := some 47) #[Y_,Y_,Y_,Y_,Y_,Y_,Y_,Y_,Y_,Y_,Y_,Y_,Y_,N_] rfl rfl (one_of HT_.out (by kernel_rfl)) (by decide) (fun K hK => ?_); refine goes_ Tryd.func37 (by kernel_rfl) rfl #[.string (a0_3.extract 0 ((ji38) : Int).toNat)] (by rfl) rfl rfl (by (try simp only [List.map_toArray, List.map_cons, List.map_nil]); first | done | (simp only [hji38]; rfl) | rfl | (simp only [List.length_drop, List.length_take]; rfl)) ?_; (with_reducible refine (modbus_sum.calls k (a0_3.extract 0 ((ji38) : Int).toNat) t128 _ ?side1 A41.out).mono ?_)
         (case side1 => refine TabOk.below hT_ ?_; repeat (first | (with_reducible first | exact HB.out | apply below_alloc | apply pw_below_drewN | apply below_drew1 | refine below_set ?_ GE125.out | refine below_set ?_ GE126.out | refine below_set ?_ GE127.out) | exact HB.out))
         rintro e w82 ⟨rfl, hb⟩; refine ⟨_, rfl, ?_⟩; replace BK125 := bkB BK125 hb; replace BK126 := bkB BK126 hb; replace BK127 := bkB BK127 hb; replace HB := bst HB hb; (try clear hb); refine hK.out _ _ ⟨ck BK125 0, ck BK125 1, ck BK125 2, ck BK125 3⟩ (fun hHeld => ?_); clear hK K; refine norm_ (a' := ?_) ?_ ?_; rotate_left
         ·show Act.put _ (some 47) _ = _
          simp only [Act.put, nrm]
          rfl
         refine pstep 13 (some 54) #[Y_,Y_,Y_,Y_,Y_,Y_,Y_,Y_,Y_,Y_,Y_,Y_,Y_,Y_] HT_.out ?_; refine done_ (done_of HT_.out (by kernel_rfl)) ?_; obtain ⟨_,_,_,_,_,_,_,_,_,_,_,_,_,_⟩ := cQ7 BK127; obtain ⟨_,_,_,_,_,_,_,_,_,_,_,_,_,_⟩ := cQ7 BK126
         try go_wp2
         refine bodyPost_ret (results_cell_row rfl _ _ gb126 32 #[.int .i64 5, .int .i64 a0_0, .int .i64 a0_1, .int .i64 (wrap64 (bt a0_3 0)), .int .i64 (wrap64 (bt a0_3 1)), .string (a0_3.extract 2 ((ji38) : Int).toNat), .int .i64 3] (0, 0) _ rfl (by (with_reducible repeat (first | refine blk_drewN ?_ _ | refine blk_drew ?_ | refine blk_alloc ?_ _)); refine blk_put7 (.int .i64 0) (.int .i64 0) (.int .i64 0) (.int .i64 0) (.int .i64 0) (.string (⟨#[]⟩ : ByteArray)) (.int .i64 0) ?_; (with_reducible repeat (first | refine blk_drewN ?_ _ | refine blk_drew ?_ | refine blk_alloc ?_ _)); refine blk_far ?_ NB126_127.out _; (with_reducible repeat (first | refine blk_drewN ?_ _ | refine blk_drew ?_ | refine blk_alloc ?_ _)); exact BK126.out) Tryd.underlying32 rfl (by kernel_rfl)) rfl ?_
         exact ⟨by first | rfl | (simp [errW_none, errW_some] <;> rfl) | (simp only [← hji38]; first | rfl | (simp [errW_none, errW_some] <;> rfl)) | (simp [*, errW_none, errW_some] <;> rfl), hbw HB.out⟩
       ·rw [if_neg c39] at H
        exact absurd H (by simp)
      ·rw [if_neg c37] at H
       exact absurd H (by simp)
     ·rw [if_neg c36] at H
      exact absurd H (by simp)
   ·rw [if_neg c15] at H
    exact absurd H (by simp)
  ·rw [if_neg c13] at H
   exact absurd H (by simp)

/-! ### modbus_finish: function 27 -/
def modbus_finish.f (k : Nat) (a0_0 : Int) (a0_1 : Int) (a0_2 : Int) (a0_3 : Int) (a0_4 : Int) (a0_5 : Int) (a0_6 : Int) (a0_7 : ByteArray) : Option ((List (S32))) := if a0_3 = 0 then (some ([] : List (S32))) else ((modbus_frame_complete.f k a0_2 a0_5 a0_3 a0_7).bind fun bt130 => (some (([(⟨bt130.1, bt130.2.1, bt130.2.2.1, bt130.2.2.2.1, bt130.2.2.2.2.1, bt130.2.2.2.2.2.1, bt130.2.2.2.2.2.2⟩ : S32)] : List (S32)))))
theorem modbus_finish.mono : ∀ a0 a1 a2 a3 a4 a5 a6 a7 k, LeO (modbus_finish.f k a0 a1 a2 a3 a4 a5 a6 a7) (modbus_finish.f (k + 1) a0 a1 a2 a3 a4 a5 a6 a7) := by
 intro a0 a1 a2 a3 a4 a5 a6 a7 k
 unfold modbus_finish.f
 repeat' first
   | (with_reducible exact modbus_frame_complete.mono _ _ _ _ _)
   | (with_reducible exact LeO.refl _)
   | (with_reducible exact LeO.none _)
   | (with_reducible refine LeO.ite ?_ ?_)
   | (with_reducible refine LeO.bind ?_ (fun _ => ?_))
   | exact modbus_frame_complete.mono _ _ _ _ _
   | exact LeO.none _
   | refine LeO.ite ?_ ?_
   | refine LeO.bind ?_ (fun _ => ?_)
set_option maxHeartbeats 8000000 in
set_option maxRecDepth 100000 in
theorem modbus_finish.calls (k : Nat) (a0_0 : Int) (a0_1 : Int) (a0_2 : Int) (a0_3 : Int) (a0_4 : Int) (a0_5 : Int) (a0_6 : Int) (a0_7 : ByteArray) (r : List (S32)) (w : World) (hT_ : TabOk w) (h : modbus_finish.f k a0_0 a0_1 a0_2 a0_3 a0_4 a0_5 a0_6 a0_7 = some r) :
  Calls Tryd.prog 27 #[.agg #[.int .i64 a0_0, .int .i64 a0_1, .int .i64 a0_2, .int .i64 a0_3, .int .i64 a0_4, .int .i64 a0_5, .int .i64 a0_6, .string a0_7]] w fun e w' => ∃ v0_ : Value, e = .returned (v0_) ∧ Kd.R k32 32 w' w.heap.size (fun _ => True) v0_ r ∧ Below w.heap.size w w' := by
 have hu27 := Tryd.underlying27; have hu62 := Tryd.underlying62
 have hmf_ : ∀ (fn : Fn) (first cap : Array Value) (w : World), (Instr.makeFunc fn first cap).run Tryd.prog w = .ok (.func fn first cap) w := fun _ _ _ _ => rfl
 have HB := sA (Below.refl w.heap.size w); have H : (if a0_3 = 0 then (some ([] : List (S32))) else ((modbus_frame_complete.f k a0_2 a0_5 a0_3 a0_7).bind fun bt130 => (some (([(⟨bt130.1, bt130.2.1, bt130.2.2.1, bt130.2.2.2.1, bt130.2.2.2.2.1, bt130.2.2.2.2.2.1, bt130.2.2.2.2.2.2⟩ : S32)] : List (S32)))))) = some r := h; clear h
 by_cases c2 : a0_3 = 0
 ·rw [if_pos c2] at H
  have c2b0 : (a0_3 == 0) = true := beq_iff_eq.mpr c2; have c2b1 : (a0_3 != 0) = false := bne_eq_false_iff_eq.mpr c2; clear c2; obtain rfl := Option.some.inj H
  go_enter Tryd.func27, Tryd.ntmps27
  go_wp2_with (first | ((with_reducible refine gate_dst (N := 1) rfl ?_); refine boxK 1 #[.int .i64 a0_0, .int .i64 a0_1, .int .i64 a0_2, .int .i64 a0_3, .int .i64 a0_4, .int .i64 a0_5, .int .i64 a0_6, .string a0_7] 27 ?_; intro gb129 hg w3 hbox hb; have BK129 := sA hbox; have GW129 := bsz HB hg; have GE129 := bsz HB hg; replace HB := bst HB hb; clear hb hbox hg; obtain ⟨_,_,_,_,_,_,_,_,_,_,_,_,_,_,_,_⟩ := cQ8 BK129))
  go_ret
  exact ⟨_, eW_, by first | exact Kd.R_nil _ _ _ _ _ | exact Kd.N_nil _ _ _ _ _ | exact Kd.V_nil _ _ _ _ _ | exact Kd.Q_nil _ _ _ _ _ | exact Kd.S_nil _ _ _ _ _, hbw HB.out⟩
 ·rw [if_neg c2] at H
  have c2b0 : (a0_3 == 0) = false := beq_eq_false_iff_ne.mpr c2; have c2b1 : (a0_3 != 0) = true := bne_iff_ne.mpr c2; replace H := Option.bind_eq_some_iff.mp H; obtain ⟨⟨t130, t131, t132, t133, t134, t135, t136⟩, A50, H⟩ := H; replace H : (some (([(⟨t130, t131, t132, t133, t134, t135, t136⟩ : S32)] : List (S32)))) = some r := H; have A5 := sA A50; clear A50; obtain ⟨y137, hy137⟩ : ∃ y_ : List (S32), y_ = (([(⟨t130, t131, t132, t133, t134, t135, t136⟩ : S32)] : List (S32))) := ⟨_, rfl⟩
  replace H : (some y137) = some r := by first | (rw [hy137]; with_reducible exact H) | (have H2_ := (Option.bind_some _ _).symm.trans H; rw [hy137]; with_reducible exact H2_) | (have H2_ := (Option.bind_some _ _).symm.trans H; with_reducible exact H2_) | with_reducible exact H | (rw [hy137]; exact H) | exact H
  have Ny137 := sA hy137; clear hy137; obtain rfl := Option.some.inj H
  go_enter Tryd.func27, Tryd.ntmps27
  go_wp2_with (first | ((with_reducible refine gate_dst (N := 1) rfl ?_); refine boxK 1 #[.int .i64 a0_0, .int .i64 a0_1, .int .i64 a0_2, .int .i64 a0_3, .int .i64 a0_4, .int .i64 a0_5, .int .i64 a0_6, .string a0_7] 27 ?_; intro gb129 hg w6 hbox hb; have BK129 := sA hbox; have GW129 := bsz HB hg; have GE129 := bsz HB hg; replace HB := bst HB hb; clear hb hbox hg; obtain ⟨_,_,_,_,_,_,_,_,_,_,_,_,_,_,_,_⟩ := cQ8 BK129) | (go_at_call 34; (with_reducible refine (modbus_frame_complete.calls k a0_2 a0_5 a0_3 a0_7 t130 t131 t132 t133 t134 t135 t136 _ ?side1 A5.out).mono ?_); (case side1 => refine TabOk.below hT_ ?_; repeat (first | (with_reducible first | exact HB.out | apply below_alloc | apply pw_below_drewN | apply below_drew1 | refine below_set ?_ GE129.out) | exact HB.out)); rintro e w8 ⟨rfl, hb⟩; replace BK129 := sA (blkb BK129.out hb); replace HB := bst HB hb; (try clear hb); (try clear hk)) | ((with_reducible refine gate_dst (N := 19) rfl ?_); refine Kd.R_lit k32 _ 32 ?hg (N := 19) ?hd (xs := ([(⟨t130, t131, t132, t133, t134, t135, t136⟩ : S32)] : List (S32))) (inner := [.int .i64 t130, .int .i64 t131, .int .i64 t132, .int .i64 t133, .int .i64 t134, .string t135, .int .i64 t136]) (ok := fun _ => True) (okp := fun _ => True) ?hr ?hp (fun _ hk => hk) trivial (Below.refl _ _) (Nat.le_refl _) (by simp) ?_; (case hd => rfl); (case hg => rfl); (case hr => first | (go_simp; done) | (go_simp; rfl)); (case hp => exact (Reps.c7 (show Kd.M k32 _ _ _ (⟨t130, t131, t132, t133, t134, t135, t136⟩ : S32) [.int .i64 t130, .int .i64 t131, .int .i64 t132, .int .i64 t133, .int .i64 t134, .string t135, .int .i64 t136] from (k32_mkM _ _ _ (⟨t130, t131, t132, t133, t134, t135, t136⟩ : S32) )) (Reps.none _ _))); intro v138 w9 ho10 hb hg_ hnew_; clear hg_ hnew_; (first | rw [← Ny137.out] at ho10 | (simp only [Int.reduceToNat] at ho10; rw [← Ny137.out] at ho10)); have HO139 := sA (Kd.R_lower ho10 (below_size (hbw HB.out))); replace BK129 := sA (blkb BK129.out hb); replace HB := bst HB hb; clear hb ho10))
  go_ret
  exact ⟨_, eW_, by (with_reducible repeat (first | apply Kd.R_alloc | apply Kd.R_drewN | apply Kd.R_drew)); exact HO139.out, hbw HB.out⟩

end Go.Proofs.YtmalhgidhieamaaDoor.PModbusDecodes
