-- Written by a program of this session (wip/tools/pr.py), which calls the kit's print with changes of its own.
import Derived.Test.YtmalhgidhieamaaDoorPModbusDecodesx0
import Derived.Test.YtmalhgidhieamaaDoorPModbusDecodesx5
namespace Go.Proofs.YtmalhgidhieamaaDoor.PModbusDecodes
open Go.RowKit Go.Proofs.YtmalhgidhieamaaDoorW.PrintWords Go.Proofs.YtmalhgidhieamaaDoorW.PrintLast Go.Proofs.YtmalhgidhieamaaDoorW.PrintMore
attribute [local go_sem] max2_int min2_int max_two min_two max_three min_three max_four min_four   -- for this text's walks alone
set_option linter.unusedVariables false
set_option linter.unusedSimpArgs false

/-! ### modbus_send: function 31 -/
def modbus_send.f (k : Nat) (a0_0 : Int) (a0_1 : Int) (a0_2 : Int) (a0_3 : ByteArray) (a0_4 : Int) : Option (ByteArray) := (some (([(a0_1) % 256, (a0_2) % 256] : List Int) : List Int)).bind fun y200 => (if a0_4 = 8 then (some (strOfNums y200)) else (if (strOfNums y200).size + a0_3.size ≤ 9223372036854775807 then ((modbus_sum.f k ((strOfNums y200) ++ a0_3)).bind fun t203 => (if a0_4 = 3 then (if 0 < (t203.size : Int) then (if 1 < (t203.size : Int) then ((some (([Go.bits .xor .u8 (bt t203 0) 1, bt t203 1] : List Int) : List Int)).bind fun y204 => (if ((strOfNums y200) ++ a0_3).size + (strOfNums y204).size ≤ 9223372036854775807 then (some (((strOfNums y200) ++ a0_3) ++ (strOfNums y204))) else (none))) else (none)) else (none)) else (if ((strOfNums y200) ++ a0_3).size + t203.size ≤ 9223372036854775807 then (some (((strOfNums y200) ++ a0_3) ++ t203)) else (none)))) else (none)))
theorem modbus_send.mono : ∀ a0 a1 a2 a3 a4 k, LeO (modbus_send.f k a0 a1 a2 a3 a4) (modbus_send.f (k + 1) a0 a1 a2 a3 a4) := by
 intro a0 a1 a2 a3 a4 k
 unfold modbus_send.f
 repeat' first
   | (with_reducible exact modbus_sum.mono _ _)
   | (with_reducible exact LeO.refl _)
   | (with_reducible exact LeO.none _)
   | (with_reducible refine LeO.ite ?_ ?_)
   | (with_reducible refine LeO.bind ?_ (fun _ => ?_))
   | exact modbus_sum.mono _ _
   | exact LeO.none _
   | refine LeO.ite ?_ ?_
   | refine LeO.bind ?_ (fun _ => ?_)
def modbus_send.T7 : Bool × List (List Nat × List Nat) := (true, [([], []), ([0], [0]), ([1], [1]), ([], []), ([3], [3]), ([2, 4], [2, 4]), ([5], [5]), ([6, 0, 1, 2, 3, 4, 5, 6], [0, 3, 6])])
def modbus_send.B7 : List Nat := [0, 1, 3, 0, 8, 31, 63, 127]
theorem modbus_send.tab7 : rtab .any (opsOf Tryd.f31 7) = modbus_send.T7 := by kernel_rfl
theorem modbus_send.bits7 : waitsOk modbus_send.T7.2 modbus_send.B7 = true := by kernel_rfl
set_option maxHeartbeats 8000000 in
set_option maxRecDepth 100000 in
theorem modbus_send.calls (k : Nat) (a0_0 : Int) (a0_1 : Int) (a0_2 : Int) (a0_3 : ByteArray) (a0_4 : Int) (r : ByteArray) (w : World) (hT_ : TabOk w) (h : modbus_send.f k a0_0 a0_1 a0_2 a0_3 a0_4 = some r) :
  Calls Tryd.prog 31 #[.agg #[.int .i64 a0_0, .int .i64 a0_1, .int .i64 a0_2, .string a0_3, .int .i64 a0_4]] w fun e w' => e = .returned (.string r) ∧ Below w.heap.size w w' := by
 have hu48 := Tryd.underlying48; have HB := sA (Below.refl w.heap.size w); have H : ((some (([(a0_1) % 256, (a0_2) % 256] : List Int) : List Int)).bind fun y200 => (if a0_4 = 8 then (some (strOfNums y200)) else (if (strOfNums y200).size + a0_3.size ≤ 9223372036854775807 then ((modbus_sum.f k ((strOfNums y200) ++ a0_3)).bind fun t203 => (if a0_4 = 3 then (if 0 < (t203.size : Int) then (if 1 < (t203.size : Int) then ((some (([Go.bits .xor .u8 (bt t203 0) 1, bt t203 1] : List Int) : List Int)).bind fun y204 => (if ((strOfNums y200) ++ a0_3).size + (strOfNums y204).size ≤ 9223372036854775807 then (some (((strOfNums y200) ++ a0_3) ++ (strOfNums y204))) else (none))) else (none)) else (none)) else (if ((strOfNums y200) ++ a0_3).size + t203.size ≤ 9223372036854775807 then (some (((strOfNums y200) ++ a0_3) ++ t203)) else (none)))) else (none)))) = some r := h; clear h; obtain ⟨y200, hy200⟩ : ∃ y_ : List Int, y_ = (([(a0_1) % 256, (a0_2) % 256] : List Int)) := ⟨_, rfl⟩
 replace H : (if a0_4 = 8 then (some (strOfNums y200)) else (if (strOfNums y200).size + a0_3.size ≤ 9223372036854775807 then ((modbus_sum.f k ((strOfNums y200) ++ a0_3)).bind fun t203 => (if a0_4 = 3 then (if 0 < (t203.size : Int) then (if 1 < (t203.size : Int) then ((some (([Go.bits .xor .u8 (bt t203 0) 1, bt t203 1] : List Int) : List Int)).bind fun y204 => (if ((strOfNums y200) ++ a0_3).size + (strOfNums y204).size ≤ 9223372036854775807 then (some (((strOfNums y200) ++ a0_3) ++ (strOfNums y204))) else (none))) else (none)) else (none)) else (if ((strOfNums y200) ++ a0_3).size + t203.size ≤ 9223372036854775807 then (some (((strOfNums y200) ++ a0_3) ++ t203)) else (none)))) else (none))) = some r := by first | (rw [hy200]; with_reducible exact H) | (have H2_ := (Option.bind_some _ _).symm.trans H; rw [hy200]; with_reducible exact H2_) | (have H2_ := (Option.bind_some _ _).symm.trans H; with_reducible exact H2_) | with_reducible exact H | (rw [hy200]; exact H) | exact H
 have Ny200 := sA hy200; clear hy200
 by_cases c2 : a0_4 = 8
 ·rw [if_pos c2] at H
  have c2b0 : (a0_4 == 8) = true := beq_iff_eq.mpr c2; have c2b1 : (a0_4 != 8) = false := bne_eq_false_iff_eq.mpr c2; clear c2; obtain rfl := Option.some.inj H
  go_enter Tryd.func31, Tryd.ntmps31
  go_wp2_with (first | ((with_reducible refine gate_dst (N := 1) rfl ?_); refine boxK 1 #[.int .i64 a0_0, .int .i64 a0_1, .int .i64 a0_2, .string a0_3, .int .i64 a0_4] 48 ?_; intro gb199 hg w3 hbox hb; have BK199 := sA hbox; have GW199 := bsz HB hg; have GE199 := bsz HB hg; replace HB := bst HB hb; clear hb hbox hg; obtain ⟨_,_,_,_,_,_,_,_,_,_⟩ := cQ5 BK199) | ((with_reducible refine gate_dst (N := 11) rfl ?_); refine Kd.R_lit (Kd.int .u8) _ 5 ?hg (N := 11) ?hd (xs := ([(a0_1) % 256, (a0_2) % 256] : List Int)) (inner := [.int .u8 ((a0_1) % 256), .int .u8 ((a0_2) % 256)]) (ok := fun _ => True) (okp := fun _ => True) ?hr ?hp (fun _ hk => hk) trivial (Below.refl _ _) (Nat.le_refl _) (by simp) ?_; (case hd => rfl); (case hg => rfl); (case hr => first | (go_simp; done) | (go_simp; rfl)); (case hp => exact (Reps.one (show Kd.M (Kd.int .u8) _ _ _ ((a0_1) % 256) [.int .u8 ((a0_1) % 256)] from rfl) (Reps.one (show Kd.M (Kd.int .u8) _ _ _ ((a0_2) % 256) [.int .u8 ((a0_2) % 256)] from rfl) (Reps.none _ _)))); intro v201 w5 ho6 hb hg_ hnew_; clear hg_ hnew_; (first | rw [← Ny200.out] at ho6 | (simp only [Int.reduceToNat] at ho6; rw [← Ny200.out] at ho6)); have HO202 := sA (Kd.R_lower ho6 (below_size (hbw HB.out))); replace BK199 := sA (blkb BK199.out hb); replace HB := bst HB hb; clear hb ho6; have hcv7 := own_string (P := Tryd.prog) Tryd.underlying49 Tryd.underlying5 Tryd.underlying9 (Kd.own_of_R HO202.out); obtain ⟨_,_,_,_,_,_,_,_,_,_⟩ := cQ5 BK199))
  go_ret
  exact ⟨eW_, hbw HB.out⟩
 ·rw [if_neg c2] at H
  have c2b0 : (a0_4 == 8) = false := beq_eq_false_iff_ne.mpr c2; have c2b1 : (a0_4 != 8) = true := bne_iff_ne.mpr c2
  by_cases c9 : (strOfNums y200).size + a0_3.size ≤ 9223372036854775807
  ·rw [if_pos c9] at H
   have c9b0 := eq_true c9; have c9b1 : decide ((strOfNums y200).size + a0_3.size ≤ 9223372036854775807) = true := decide_eq_true c9
   try have c9b2 : (9223372036854775807 < (strOfNums y200).size + a0_3.size) = False := eq_false (Nat.not_lt.2 c9)
   replace H := Option.bind_eq_some_iff.mp H; obtain ⟨t203, A100, H⟩ := H; replace H : (if a0_4 = 3 then (if 0 < (t203.size : Int) then (if 1 < (t203.size : Int) then ((some (([Go.bits .xor .u8 (bt t203 0) 1, bt t203 1] : List Int) : List Int)).bind fun y204 => (if ((strOfNums y200) ++ a0_3).size + (strOfNums y204).size ≤ 9223372036854775807 then (some (((strOfNums y200) ++ a0_3) ++ (strOfNums y204))) else (none))) else (none)) else (none)) else (if ((strOfNums y200) ++ a0_3).size + t203.size ≤ 9223372036854775807 then (some (((strOfNums y200) ++ a0_3) ++ t203)) else (none))) = some r := H; have A10 := sA A100; clear A100
   by_cases c11 : a0_4 = 3
   ·rw [if_pos c11] at H
    have c11b0 : (a0_4 == 3) = true := beq_iff_eq.mpr c11; have c11b1 : (a0_4 != 3) = false := bne_eq_false_iff_eq.mpr c11; clear c11
    by_cases c12 : 0 < (t203.size : Int)
    ·rw [if_pos c12] at H
     have c12b0 : decide (0 < (t203.size : Int)) = true := decide_eq_true c12; have c12b1 : decide (0 < t203.size) = true := decide_eq_true (by omega); clear c12
     by_cases c14 : 1 < (t203.size : Int)
     ·rw [if_pos c14] at H
      have c14b0 : decide (1 < (t203.size : Int)) = true := decide_eq_true c14; have c14b1 : decide (1 < t203.size) = true := decide_eq_true (by omega); clear c14; obtain ⟨y204, hy204⟩ : ∃ y_ : List Int, y_ = (([Go.bits .xor .u8 (bt t203 0) 1, bt t203 1] : List Int)) := ⟨_, rfl⟩
      replace H : (if ((strOfNums y200) ++ a0_3).size + (strOfNums y204).size ≤ 9223372036854775807 then (some (((strOfNums y200) ++ a0_3) ++ (strOfNums y204))) else (none)) = some r := by first | (rw [hy204]; with_reducible exact H) | (have H2_ := (Option.bind_some _ _).symm.trans H; rw [hy204]; with_reducible exact H2_) | (have H2_ := (Option.bind_some _ _).symm.trans H; with_reducible exact H2_) | with_reducible exact H | (rw [hy204]; exact H) | exact H
      have Ny204 := sA hy204; clear hy204
      by_cases c16 : ((strOfNums y200) ++ a0_3).size + (strOfNums y204).size ≤ 9223372036854775807
      ·rw [if_pos c16] at H
       have c16b0 := eq_true c16; have c16b1 : decide (((strOfNums y200) ++ a0_3).size + (strOfNums y204).size ≤ 9223372036854775807) = true := decide_eq_true c16
       try have c16b2 : (9223372036854775807 < ((strOfNums y200) ++ a0_3).size + (strOfNums y204).size) = False := eq_false (Nat.not_lt.2 c16)
       obtain rfl := Option.some.inj H
       go_enter Tryd.func31, Tryd.ntmps31
       try go_wp2_with (first | ((with_reducible refine gate_dst (N := 1) rfl ?_); refine boxK 1 #[.int .i64 a0_0, .int .i64 a0_1, .int .i64 a0_2, .string a0_3, .int .i64 a0_4] 48 ?_; intro gb199 hg w17 hbox hb; have BK199 := sA hbox; have GW199 := bsz HB hg; have GE199 := bsz HB hg; replace HB := bst HB hb; clear hb hbox hg; obtain ⟨_,_,_,_,_,_,_,_,_,_⟩ := cQ5 BK199) | ((with_reducible refine gate_dst (N := 11) rfl ?_); refine Kd.R_lit (Kd.int .u8) _ 5 ?hg (N := 11) ?hd (xs := ([(a0_1) % 256, (a0_2) % 256] : List Int)) (inner := [.int .u8 ((a0_1) % 256), .int .u8 ((a0_2) % 256)]) (ok := fun _ => True) (okp := fun _ => True) ?hr ?hp (fun _ hk => hk) trivial (Below.refl _ _) (Nat.le_refl _) (by simp) ?_; (case hd => rfl); (case hg => rfl); (case hr => first | (go_simp; done) | (go_simp; rfl)); (case hp => exact (Reps.one (show Kd.M (Kd.int .u8) _ _ _ ((a0_1) % 256) [.int .u8 ((a0_1) % 256)] from rfl) (Reps.one (show Kd.M (Kd.int .u8) _ _ _ ((a0_2) % 256) [.int .u8 ((a0_2) % 256)] from rfl) (Reps.none _ _)))); intro v201 w19 ho20 hb hg_ hnew_; clear hg_ hnew_; (first | rw [← Ny200.out] at ho20 | (simp only [Int.reduceToNat] at ho20; rw [← Ny200.out] at ho20)); have HO202 := sA (Kd.R_lower ho20 (below_size (hbw HB.out))); replace BK199 := sA (blkb BK199.out hb); replace HB := bst HB hb; clear hb ho20; have hcv21 := own_string (P := Tryd.prog) Tryd.underlying49 Tryd.underlying5 Tryd.underlying9 (Kd.own_of_R HO202.out); obtain ⟨_,_,_,_,_,_,_,_,_,_⟩ := cQ5 BK199) | ((with_reducible refine gate_callee (f := 37) rfl ?_); refine goesK (some 22) Tryd.func37 #[.string ((strOfNums y200) ++ a0_3)] ?_; (with_reducible refine (modbus_sum.calls k ((strOfNums y200) ++ a0_3) t203 _ ?side1 A10.out).mono ?_); (case side1 => refine TabOk.below hT_ ?_; repeat (first | (with_reducible first | exact HB.out | apply below_alloc | apply pw_below_drewN | apply below_drew1 | refine below_set ?_ GE199.out) | exact HB.out)); rintro e w23 ⟨rfl, hb⟩; refine ⟨_, rfl, ?_⟩; replace HO202 := sA (Kd.R_below (rkw HO202.out) hb); replace BK199 := sA (blkb BK199.out hb); replace HB := bst HB hb; (try clear hb); (try clear hk); obtain ⟨_,_,_,_,_,_,_,_,_,_⟩ := cQ5 BK199))
       replace HO202 := sA (Kd.R_drew HO202.out); replace BK199 := sA (blk_drew BK199.out); replace HB := sA (below_drew1 HB.out); have p13 : 0 ≤ (0 : Int) := (by omega); have q13 : 0 < t203.size := (by have : (0 : Int) < (t203.size : Int) := of_decide_eq_true (by first | (with_reducible assumption) | assumption); omega); have hx13 : ∀ h : 0 < t203.size, ((t203[0]'h).toNat : Int) = bt t203 0 := bt_at t203 0; clear p13; have qi13 : (0 < (t203.size : Int)) = True := eq_true (of_decide_eq_true (by first | (with_reducible assumption) | assumption)); replace q13 := eq_true q13; have p15 : 0 ≤ (1 : Int) := (by omega); have q15 : 1 < t203.size := (by have : (1 : Int) < (t203.size : Int) := of_decide_eq_true (by first | (with_reducible assumption) | assumption); omega); have hx15 : ∀ h : 1 < t203.size, ((t203[1]'h).toNat : Int) = bt t203 1 := bt_at t203 1; clear p15; have qi15 : (1 < (t203.size : Int)) = True := eq_true (of_decide_eq_true (by first | (with_reducible assumption) | assumption)); replace q15 := eq_true q15; refine start_ (n := 8) (S := fun w' => True) (ds := []) #[N_,N_,N_,N_,N_,N_,N_,N_] (by kernel_rfl) rfl rfl trivial (fun hHeld => ?_); refine with_tabW modbus_send.tab7 modbus_send.bits7 (fun HT_ HW_ => ?_)
       generalize w23.drew = w25 at HO202 BK199 HB hHeld ⊢
       refine pstep 0 (some 26) #[Y_,N_,N_,N_,N_,N_,N_,N_] HT_.out ?_; refine pstep 3 (some 29) #[Y_,N_,N_,Y_,N_,N_,N_,N_] HT_.out ?_; refine take_ (i := 1) (N := some 27) (v := ?_) (a' := ?_) #[Y_,Y_,N_,Y_,N_,N_,N_,N_] rfl rfl (take_ofW HT_.out HW_.out (by kernel_rfl)) (fun _ _ _ h => h) (Or.inl ⟨by rfl, ?_⟩) hHeld ?_ ?_; rotate_left
       ·intro w' _
        go_simp
        with_reducible rfl
       rotate_left
       ·simp only [Act.put, nrm]
        rfl
       refine pstep 2 (some 28) #[Y_,Y_,Y_,Y_,N_,N_,N_,N_] HT_.out ?_; refine take_ (i := 4) (N := some 30) (v := ?_) (a' := ?_) #[Y_,Y_,Y_,Y_,Y_,N_,N_,N_] rfl rfl (take_ofW HT_.out HW_.out (by kernel_rfl)) (fun _ _ _ h => h) (Or.inl ⟨by rfl, ?_⟩) hHeld ?_ ?_; rotate_left
       ·intro w' _
        go_simp
        with_reducible rfl
       rotate_left
       ·simp only [Act.put, nrm]
        rfl
       refine one_ (i := 5) (N := some 31) #[Y_,Y_,Y_,Y_,Y_,Y_,N_,N_] rfl rfl (one_of HT_.out (by kernel_rfl)) (by decide) (fun K hK => ?_); refine Kd.R_lit_step (Kd.int .u8) _ 5 ?hg (N := 31) ?hd (xs := ([Go.bits .xor .u8 (bt t203 0) 1, bt t203 1] : List Int)) (inner := [.int .u8 (Go.bits .xor .u8 (bt t203 0) 1), .int .u8 (bt t203 1)]) (ok := fun _ => True) (okp := fun _ => True) ?hr ?hp (fun _ hk => hk) trivial (Below.refl _ _) (Nat.le_refl _) (by simp) ?_; (case hd => rfl); (case hg => rfl); (case hr => first | (go_simp; done) | (go_simp; rfl)); (case hp => exact (Reps.one (show Kd.M (Kd.int .u8) _ _ _ (Go.bits .xor .u8 (bt t203 0) 1) [.int .u8 (Go.bits .xor .u8 (bt t203 0) 1)] from rfl) (Reps.one (show Kd.M (Kd.int .u8) _ _ _ (bt t203 1) [.int .u8 (bt t203 1)] from rfl) (Reps.none _ _)))); intro v205 w26 ho27 hb hg_ hnew_; clear hg_ hnew_
       (first | rw [← Ny204.out] at ho27 | (simp only [Int.reduceToNat] at ho27; rw [← Ny204.out] at ho27))
       have HO206 := sA (Kd.R_lower (Kd.R_new' ho27 (Kd.R_lt (rkw HO202.out))) (below_size (hbw HB.out))); replace HO202 := sA (Kd.R_elder' (rkw HO202.out) (Kd.R_base ho27) hb); replace BK199 := bkB BK199 hb; replace HB := bst HB hb; clear hb ho27; refine hK.out _ _ trivial (fun hHeld => ?_); clear hK K; refine norm_ (a' := ?_) ?_ ?_; rotate_left
       ·show Act.put _ (some 31) _ = _
        simp only [Act.put, nrm]
        rfl
       refine one_ (i := 6) (N := some 32) #[Y_,Y_,Y_,Y_,Y_,Y_,Y_,N_] rfl rfl (one_of HT_.out (by kernel_rfl)) (by decide) (fun K hK => ?_); have hcv28 := own_string (P := Tryd.prog) Tryd.underlying49 Tryd.underlying5 Tryd.underlying9 (Kd.own_of_R HO206.out); refine value_ (w1 := ?_) (v := ?_) (by rfl) rfl ?_ ?_; rotate_left 2
       ·go_simp
        constructor
        ·rfl
        ·rfl
       clear hcv28; refine hK.out _ _ trivial (fun hHeld => ?_); clear hK K; refine norm_ (a' := ?_) ?_ ?_; rotate_left
       ·show Act.put _ (some 32) _ = _
        simp only [Act.put, nrm]
        rfl
       refine pstep 7 (some 4) #[Y_,Y_,Y_,Y_,Y_,Y_,Y_,Y_] HT_.out ?_; refine done_ (done_of HT_.out (by kernel_rfl)) ?_
       try go_wp2
       go_ret
       exact ⟨eW_, hbw HB.out⟩
      ·rw [if_neg c16] at H
       exact absurd H (by simp)
     ·rw [if_neg c14] at H
      exact absurd H (by simp)
    ·rw [if_neg c12] at H
     exact absurd H (by simp)
   ·rw [if_neg c11] at H
    have c11b0 : (a0_4 == 3) = false := beq_eq_false_iff_ne.mpr c11; have c11b1 : (a0_4 != 3) = true := bne_iff_ne.mpr c11
    by_cases c29 : ((strOfNums y200) ++ a0_3).size + t203.size ≤ 9223372036854775807
    ·rw [if_pos c29] at H
     have c29b0 := eq_true c29; have c29b1 : decide (((strOfNums y200) ++ a0_3).size + t203.size ≤ 9223372036854775807) = true := decide_eq_true c29
     try have c29b2 : (9223372036854775807 < ((strOfNums y200) ++ a0_3).size + t203.size) = False := eq_false (Nat.not_lt.2 c29)
     obtain rfl := Option.some.inj H
     go_enter Tryd.func31, Tryd.ntmps31
     go_wp2_with (first | ((with_reducible refine gate_dst (N := 1) rfl ?_); refine boxK 1 #[.int .i64 a0_0, .int .i64 a0_1, .int .i64 a0_2, .string a0_3, .int .i64 a0_4] 48 ?_; intro gb199 hg w30 hbox hb; have BK199 := sA hbox; have GW199 := bsz HB hg; have GE199 := bsz HB hg; replace HB := bst HB hb; clear hb hbox hg; obtain ⟨_,_,_,_,_,_,_,_,_,_⟩ := cQ5 BK199) | ((with_reducible refine gate_dst (N := 11) rfl ?_); refine Kd.R_lit (Kd.int .u8) _ 5 ?hg (N := 11) ?hd (xs := ([(a0_1) % 256, (a0_2) % 256] : List Int)) (inner := [.int .u8 ((a0_1) % 256), .int .u8 ((a0_2) % 256)]) (ok := fun _ => True) (okp := fun _ => True) ?hr ?hp (fun _ hk => hk) trivial (Below.refl _ _) (Nat.le_refl _) (by simp) ?_; (case hd => rfl); (case hg => rfl); (case hr => first | (go_simp; done) | (go_simp; rfl)); (case hp => exact (Reps.one (show Kd.M (Kd.int .u8) _ _ _ ((a0_1) % 256) [.int .u8 ((a0_1) % 256)] from rfl) (Reps.one (show Kd.M (Kd.int .u8) _ _ _ ((a0_2) % 256) [.int .u8 ((a0_2) % 256)] from rfl) (Reps.none _ _)))); intro v201 w32 ho33 hb hg_ hnew_; clear hg_ hnew_; (first | rw [← Ny200.out] at ho33 | (simp only [Int.reduceToNat] at ho33; rw [← Ny200.out] at ho33)); have HO202 := sA (Kd.R_lower ho33 (below_size (hbw HB.out))); replace BK199 := sA (blkb BK199.out hb); replace HB := bst HB hb; clear hb ho33; have hcv34 := own_string (P := Tryd.prog) Tryd.underlying49 Tryd.underlying5 Tryd.underlying9 (Kd.own_of_R HO202.out); obtain ⟨_,_,_,_,_,_,_,_,_,_⟩ := cQ5 BK199) | ((with_reducible refine gate_callee (f := 37) rfl ?_); refine goesK (some 22) Tryd.func37 #[.string ((strOfNums y200) ++ a0_3)] ?_; (with_reducible refine (modbus_sum.calls k ((strOfNums y200) ++ a0_3) t203 _ ?side1 A10.out).mono ?_); (case side1 => refine TabOk.below hT_ ?_; repeat (first | (with_reducible first | exact HB.out | apply below_alloc | apply pw_below_drewN | apply below_drew1 | refine below_set ?_ GE199.out) | exact HB.out)); rintro e w36 ⟨rfl, hb⟩; refine ⟨_, rfl, ?_⟩; replace HO202 := sA (Kd.R_below (rkw HO202.out) hb); replace BK199 := sA (blkb BK199.out hb); replace HB := bst HB hb; (try clear hb); (try clear hk); obtain ⟨_,_,_,_,_,_,_,_,_,_⟩ := cQ5 BK199))
     go_ret
     exact ⟨eW_, hbw HB.out⟩
    ·rw [if_neg c29] at H
     exact absurd H (by simp)
  ·rw [if_neg c9] at H
   exact absurd H (by simp)

end Go.Proofs.YtmalhgidhieamaaDoor.PModbusDecodes
