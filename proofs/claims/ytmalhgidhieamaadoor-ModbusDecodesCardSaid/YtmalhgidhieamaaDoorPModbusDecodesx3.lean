-- Written by a program of this session (wip/tools/pr.py), which calls the kit's print with changes of its own.
import Derived.Test.YtmalhgidhieamaaDoorPModbusDecodesx0
namespace Go.Proofs.YtmalhgidhieamaaDoor.PModbusDecodes
open Go.RowKit Go.Proofs.YtmalhgidhieamaaDoorW.PrintWords Go.Proofs.YtmalhgidhieamaaDoorW.PrintLast Go.Proofs.YtmalhgidhieamaaDoorW.PrintMore
attribute [local go_sem] max2_int min2_int max_two min_two max_three min_three max_four min_four   -- for this text's walks alone
set_option linter.unusedVariables false
set_option linter.unusedSimpArgs false

/-! ### modbus_Check: function 14 -/
def modbus_Check.f (a0_0 : Int) : Option (Int) := if a0_0 < 0 then (some 2) else (if a0_0 > 1048576 then (some 2) else (some 0))
set_option maxHeartbeats 8000000 in
set_option maxRecDepth 100000 in
theorem modbus_Check.calls (a0_0 : Int) (r : Int) (w : World) (h : modbus_Check.f a0_0 = some r) :
  Calls Tryd.prog 14 #[.agg #[.int .i64 a0_0]] w fun e w' => e = .returned (.int .i64 r) ∧ Below w.heap.size w w' := by
 have hu23 := Tryd.underlying23; have HB := sA (Below.refl w.heap.size w); have H : (if a0_0 < 0 then (some 2) else (if a0_0 > 1048576 then (some 2) else (some 0))) = some r := h; clear h
 by_cases c2 : a0_0 < 0
 ·rw [if_pos c2] at H
  have c2b0 : decide (a0_0 < 0) = true := decide_eq_true c2; clear c2; obtain rfl := Option.some.inj H
  go_enter Tryd.func14, Tryd.ntmps14
  go_wp2_with (first | ((with_reducible refine gate_dst (N := 1) rfl ?_); refine boxK 1 #[.int .i64 a0_0] 23 ?_; intro gb101 hg w3 hbox hb; have BK101 := sA hbox; have GW101 := bsz HB hg; have GE101 := bsz HB hg; replace HB := bst HB hb; clear hb hbox hg; obtain ⟨_,_⟩ := cQ1 BK101))
  go_ret
  exact ⟨eW_, hbw HB.out⟩
 ·rw [if_neg c2] at H
  have c2b0 : decide (a0_0 < 0) = false := decide_eq_false c2; clear c2
  by_cases c5 : a0_0 > 1048576
  ·rw [if_pos c5] at H
   have c5b0 : decide (1048576 < a0_0) = true := decide_eq_true c5; clear c5; obtain rfl := Option.some.inj H
   go_enter Tryd.func14, Tryd.ntmps14
   go_wp2_with (first | ((with_reducible refine gate_dst (N := 1) rfl ?_); refine boxK 1 #[.int .i64 a0_0] 23 ?_; intro gb101 hg w6 hbox hb; have BK101 := sA hbox; have GW101 := bsz HB hg; have GE101 := bsz HB hg; replace HB := bst HB hb; clear hb hbox hg; obtain ⟨_,_⟩ := cQ1 BK101))
   go_ret
   exact ⟨eW_, hbw HB.out⟩
  ·rw [if_neg c5] at H
   have c5b0 : decide (1048576 < a0_0) = false := decide_eq_false c5; clear c5; obtain rfl := Option.some.inj H
   go_enter Tryd.func14, Tryd.ntmps14
   go_wp2_with (first | ((with_reducible refine gate_dst (N := 1) rfl ?_); refine boxK 1 #[.int .i64 a0_0] 23 ?_; intro gb101 hg w8 hbox hb; have BK101 := sA hbox; have GW101 := bsz HB hg; have GE101 := bsz HB hg; replace HB := bst HB hb; clear hb hbox hg; obtain ⟨_,_⟩ := cQ1 BK101))
   go_ret
   exact ⟨eW_, hbw HB.out⟩

/-! ### modbus_Start: function 9 -/
def modbus_Start.f (a0_0 : Int) : Option (Int × Int × Int × Int × Int × Int × Int × ByteArray) := some (0, 0, 0, 0, 0, 0, 0, (⟨#[]⟩ : ByteArray))
set_option maxHeartbeats 8000000 in
set_option maxRecDepth 100000 in
theorem modbus_Start.calls (a0_0 : Int) (r1 : Int) (r2 : Int) (r3 : Int) (r4 : Int) (r5 : Int) (r6 : Int) (r7 : Int) (r8 : ByteArray) (w : World) (h : modbus_Start.f a0_0 = some (r1, r2, r3, r4, r5, r6, r7, r8)) :
  Calls Tryd.prog 9 #[.agg #[.int .i64 a0_0]] w fun e w' => e = .returned (.agg #[.int .i64 r1, .int .i64 r2, .int .i64 r3, .int .i64 r4, .int .i64 r5, .int .i64 r6, .int .i64 r7, .string r8]) ∧ Below w.heap.size w w' := by
 have hu23 := Tryd.underlying23; have hu27 := Tryd.underlying27; have HB := sA (Below.refl w.heap.size w); have H : (some (0, 0, 0, 0, 0, 0, 0, (⟨#[]⟩ : ByteArray))) = some (r1, r2, r3, r4, r5, r6, r7, r8) := h; clear h
 simp only [Option.some.injEq, Prod.mk.injEq] at H
 obtain ⟨rfl, rfl, rfl, rfl, rfl, rfl, rfl, rfl⟩ := H
 go_enter Tryd.func9, Tryd.ntmps9
 go_wp2_with (first | ((with_reducible refine gate_dst (N := 1) rfl ?_); refine boxK 1 #[.int .i64 a0_0] 23 ?_; intro gb102 hg w2 hbox hb; have BK102 := sA hbox; have GW102 := bsz HB hg; have GE102 := bsz HB hg; replace HB := bst HB hb; clear hb hbox hg) | ((with_reducible refine gate_dst (N := 2) rfl ?_); refine boxK 2 #[.int .i64 0, .int .i64 0, .int .i64 0, .int .i64 0, .int .i64 0, .int .i64 0, .int .i64 0, .string (⟨#[]⟩ : ByteArray)] 27 ?_; intro gb103 hg w3 hbox hb; have BK103 := sA hbox; have GW103 := bsz HB hg; have GE103 := bsz HB hg; have NB102_103 := bnl BK102 hg; have NB103_102 := bng BK102 hg; replace BK102 := sA (blkb BK102.out hb); replace HB := bst HB hb; clear hb hbox hg; have hnb4 := NB103_102.out; have hnc4 := NB102_103.out; obtain ⟨_,_,_,_,_,_,_,_,_,_,_,_,_,_,_,_⟩ := cQ8 BK103))
 refine bodyPost_ret (results_cell_row rfl _ _ gb103 27 #[.int .i64 0, .int .i64 0, .int .i64 0, .int .i64 0, .int .i64 0, .int .i64 0, .int .i64 0, .string (⟨#[]⟩ : ByteArray)] (0, 0) _ rfl (by (with_reducible repeat (first | refine blk_drewN ?_ _ | refine blk_drew ?_ | refine blk_alloc ?_ _)); refine blk_put8 (.int .i64 0) (.int .i64 0) (.int .i64 0) (.int .i64 0) (.int .i64 0) (.int .i64 0) (.int .i64 0) (.string (⟨#[]⟩ : ByteArray)) ?_; (with_reducible repeat (first | refine blk_drewN ?_ _ | refine blk_drew ?_ | refine blk_alloc ?_ _)); exact BK103.out) Tryd.underlying27 rfl (by kernel_rfl)) rfl ?_
 exact ⟨eW_, hbw HB.out⟩

/-! ### event_Valid: function 26 -/
mutual
def event_Valid.j0 : Nat → Bool → Int → Int → Int → Int → Int → ByteArray → Int → Option (Bool)
 | 0, _, _, _, _, _, _, _, _ => none
 | k + 1, x3, x105000, x105001, x105002, x105003, x105004, x105005, x105006 => if x3 = true then (some false) else (if x105001 < 0 then (event_Valid.j1 k true x105000 x105001 x105002 x105003 x105004 x105005 x105006) else (if x105001 > x105002 then (event_Valid.j1 k true x105000 x105001 x105002 x105003 x105004 x105005 x105006) else (event_Valid.j1 k (decide (x105002 > 1099511627776)) x105000 x105001 x105002 x105003 x105004 x105005 x105006)))
def event_Valid.j1 : Nat → Bool → Int → Int → Int → Int → Int → ByteArray → Int → Option (Bool)
 | 0, _, _, _, _, _, _, _, _ => none
 | k + 1, x12, x105000, x105001, x105002, x105003, x105004, x105005, x105006 => if x12 = true then (some false) else (if x105003 < (-9007199254740992) then (some false) else (if x105003 > 9007199254740992 then (some false) else (if x105004 < (-9007199254740992) then (some false) else (if x105004 > 9007199254740992 then (some false) else (if (x105005.size : Int) ≤ 4096 then (if x105006 ≥ 0 then (some (decide (x105006 ≤ 12))) else (some false)) else (some false))))))
end
def event_Valid.f (k : Nat) (a0_0 : Int) (a0_1 : Int) (a0_2 : Int) (a0_3 : Int) (a0_4 : Int) (a0_5 : ByteArray) (a0_6 : Int) : Option (Bool) := if a0_0 < 1 then (event_Valid.j0 k true a0_0 a0_1 a0_2 a0_3 a0_4 a0_5 a0_6) else (event_Valid.j0 k (decide (a0_0 > 8)) a0_0 a0_1 a0_2 a0_3 a0_4 a0_5 a0_6)
theorem event_Valid.mono_l : ∀ k, (∀ y0 y1 y2 y3 y4 y5 y6 y7, LeO (event_Valid.j0 k y0 y1 y2 y3 y4 y5 y6 y7) (event_Valid.j0 (k + 1) y0 y1 y2 y3 y4 y5 y6 y7)) ∧ (∀ y0 y1 y2 y3 y4 y5 y6 y7, LeO (event_Valid.j1 k y0 y1 y2 y3 y4 y5 y6 y7) (event_Valid.j1 (k + 1) y0 y1 y2 y3 y4 y5 y6 y7))
 | 0 => ⟨fun _ _ _ _ _ _ _ _ r h => by simp [event_Valid.j0] at h, fun _ _ _ _ _ _ _ _ r h => by simp [event_Valid.j1] at h⟩
 | k + 1 => by
  obtain ⟨ih0, ih1⟩ := event_Valid.mono_l k; refine ⟨?_, ?_⟩
  ·intro y0 y1 y2 y3 y4 y5 y6 y7
   unfold event_Valid.j0
   repeat' first
   | (with_reducible exact ih0 _ _ _ _ _ _ _ _)
   | (with_reducible exact ih1 _ _ _ _ _ _ _ _)
   | (with_reducible exact LeO.refl _)
   | (with_reducible exact LeO.none _)
   | (with_reducible refine LeO.ite ?_ ?_)
   | (with_reducible refine LeO.bind ?_ (fun _ => ?_))
   | exact ih0 _ _ _ _ _ _ _ _
   | exact ih1 _ _ _ _ _ _ _ _
   | exact LeO.none _
   | refine LeO.ite ?_ ?_
   | refine LeO.bind ?_ (fun _ => ?_)
  ·intro y0 y1 y2 y3 y4 y5 y6 y7
   unfold event_Valid.j1
   repeat' first
   | (with_reducible exact ih0 _ _ _ _ _ _ _ _)
   | (with_reducible exact ih1 _ _ _ _ _ _ _ _)
   | (with_reducible exact LeO.refl _)
   | (with_reducible exact LeO.none _)
   | (with_reducible refine LeO.ite ?_ ?_)
   | (with_reducible refine LeO.bind ?_ (fun _ => ?_))
   | exact ih0 _ _ _ _ _ _ _ _
   | exact ih1 _ _ _ _ _ _ _ _
   | exact LeO.none _
   | refine LeO.ite ?_ ?_
   | refine LeO.bind ?_ (fun _ => ?_)
theorem event_Valid.mono : ∀ a0 a1 a2 a3 a4 a5 a6 k, LeO (event_Valid.f k a0 a1 a2 a3 a4 a5 a6) (event_Valid.f (k + 1) a0 a1 a2 a3 a4 a5 a6) := by
 intro a0 a1 a2 a3 a4 a5 a6 k; obtain ⟨ih0, ih1⟩ := event_Valid.mono_l k
 unfold event_Valid.f
 repeat' first
   | (with_reducible exact ih0 _ _ _ _ _ _ _ _)
   | (with_reducible exact ih1 _ _ _ _ _ _ _ _)
   | (with_reducible exact LeO.refl _)
   | (with_reducible exact LeO.none _)
   | (with_reducible refine LeO.ite ?_ ?_)
   | (with_reducible refine LeO.bind ?_ (fun _ => ?_))
   | exact ih0 _ _ _ _ _ _ _ _
   | exact ih1 _ _ _ _ _ _ _ _
   | exact LeO.none _
   | refine LeO.ite ?_ ?_
   | refine LeO.bind ?_ (fun _ => ?_)
set_option maxHeartbeats 8000000 in
set_option maxRecDepth 100000 in
theorem event_Valid.calls (k : Nat) (a0_0 : Int) (a0_1 : Int) (a0_2 : Int) (a0_3 : Int) (a0_4 : Int) (a0_5 : ByteArray) (a0_6 : Int) (r : Bool) (w : World) (h : event_Valid.f k a0_0 a0_1 a0_2 a0_3 a0_4 a0_5 a0_6 = some r) :
  Calls Tryd.prog 26 #[.agg #[.int .i64 a0_0, .int .i64 a0_1, .int .i64 a0_2, .int .i64 a0_3, .int .i64 a0_4, .string a0_5, .int .i64 a0_6]] w fun e w' => e = .returned (.bool r) ∧ Below w.heap.size w w' := by
 have hu32 := Tryd.underlying32; have HB := sA (Below.refl w.heap.size w); have H : (if a0_0 < 1 then (event_Valid.j0 k true a0_0 a0_1 a0_2 a0_3 a0_4 a0_5 a0_6) else (event_Valid.j0 k (decide (a0_0 > 8)) a0_0 a0_1 a0_2 a0_3 a0_4 a0_5 a0_6)) = some r := h; clear h; have HC2 := sA H; clear H
 go_enter Tryd.func26, Tryd.ntmps26
 go_upto_region 1 with (first | ((with_reducible refine gate_dst (N := 1) rfl ?_); refine boxK 1 #[.int .i64 a0_0, .int .i64 a0_1, .int .i64 a0_2, .int .i64 a0_3, .int .i64 a0_4, .string a0_5, .int .i64 a0_6] 32 ?_; intro gb104 hg w3 hbox hb; have BK104 := sA hbox; have GW104 := bsz HB hg; have GE104 := bsz HB hg; replace HB := bst HB hb; clear hb hbox hg))
 (try simp only [Act.put, List.setIfInBounds_toArray, List.set_cons_zero, List.set_cons_succ])
 go_cut [3] (fun v3 wc => ∃ (kq : Nat) (x3_1 : Bool), v3 = .bool x3_1 ∧ Aside0 (event_Valid.j0 kq x3_1 a0_0 a0_1 a0_2 a0_3 a0_4 a0_5 a0_6 = some r) ∧ Aside0 (kq ≤ k) ∧ Aside0 (wc.heap[gb104]? = some (.cells #[.int .i64 a0_0, .int .i64 a0_1, .int .i64 a0_2, .int .i64 a0_3, .int .i64 a0_4, .string a0_5, .int .i64 a0_6] 32 (0, 0))) ∧ Aside0 (Below w.heap.size w wc))
 case first =>
  have H := HC2.out; clear HC2
  by_cases c4 : a0_0 < 1
  ·rw [if_pos c4] at H
   have c4b0 : decide (a0_0 < 1) = true := decide_eq_true c4; clear c4
   (first | rw [c4b0] | (simp only [i64_w, i32_w]; rw [c4b0]) | skip)
   have H' := sA H; clear H; obtain ⟨_,_,_,_,_,_,_,_,_,_,_,_,_,_⟩ := cQ7 BK104
   go_wp2
   go_meet
   case rel => exact ⟨_, (true), (by first | rfl | (simp; done) | (simp [*]; done)), H', ⟨by first | omega | exact Nat.le_refl _⟩, ⟨bkw BK104.out⟩, ⟨hbw HB.out⟩⟩
  ·rw [if_neg c4] at H
   have c4b0 : decide (a0_0 < 1) = false := decide_eq_false c4; clear c4
   (first | rw [c4b0] | (simp only [i64_w, i32_w]; rw [c4b0]) | skip)
   have H' := sA H; clear H; obtain ⟨_,_,_,_,_,_,_,_,_,_,_,_,_,_⟩ := cQ7 BK104
   go_wp2
   go_meet
   case rel => exact ⟨_, (decide (a0_0 > 8)), (by first | rfl | (simp; done) | (simp [*]; done)), H', ⟨by first | omega | exact Nat.le_refl _⟩, ⟨bkw BK104.out⟩, ⟨hbw HB.out⟩⟩
 case rest =>
  clear HC2
  obtain ⟨kq, x3_1, rfl, HA, HJ1, BK104, HB⟩ := hcut
  cases kq with
  | zero => exact absurd HA.out (by simp [event_Valid.j0])
  | succ kj1 =>
   have H := HA.out; clear HA
   simp only [event_Valid.j0] at H
   by_cases c7 : x3_1 = true
   ·subst c7
    have H1 : (some false) = some r := by rw [if_pos rfl] at H; exact H
    clear H; have H := H1; clear H1; obtain rfl := Option.some.inj H
    go_wp2
    go_ret
    exact ⟨eW_, hbw HB.out⟩
   ·replace c7 := Bool.eq_false_iff.mpr c7
    subst c7
    have H1 : (if a0_1 < 0 then (event_Valid.j1 kj1 true a0_0 a0_1 a0_2 a0_3 a0_4 a0_5 a0_6) else (if a0_1 > a0_2 then (event_Valid.j1 kj1 true a0_0 a0_1 a0_2 a0_3 a0_4 a0_5 a0_6) else (event_Valid.j1 kj1 (decide (a0_2 > 1099511627776)) a0_0 a0_1 a0_2 a0_3 a0_4 a0_5 a0_6))) = some r := by rw [if_neg (show ¬ (false = true) by decide)] at H; exact H
    clear H; have H := H1; clear H1; have HC8 := sA H; clear H
    go_upto_region 3 with (fail)
    go_cut [12] (fun v12 wc => ∃ (kq : Nat) (x12_7 : Bool), v12 = .bool x12_7 ∧ Aside0 (event_Valid.j1 kq x12_7 a0_0 a0_1 a0_2 a0_3 a0_4 a0_5 a0_6 = some r) ∧ Aside0 (kq ≤ kj1) ∧ Aside0 (wc.heap[gb104]? = some (.cells #[.int .i64 a0_0, .int .i64 a0_1, .int .i64 a0_2, .int .i64 a0_3, .int .i64 a0_4, .string a0_5, .int .i64 a0_6] 32 (0, 0))) ∧ Aside0 (Below w.heap.size w wc))
    case first =>
     have H := HC8.out; clear HC8
     by_cases c9 : a0_1 < 0
     ·rw [if_pos c9] at H
      have c9b0 : decide (a0_1 < 0) = true := decide_eq_true c9; clear c9
      (first | rw [c9b0] | (simp only [i64_w, i32_w]; rw [c9b0]) | skip)
      have H' := sA H; clear H; obtain ⟨_,_,_,_,_,_,_,_,_,_,_,_,_,_⟩ := cQ7 BK104
      go_wp2
      go_meet
      case rel => exact ⟨_, (true), (by first | rfl | (simp; done) | (simp [*]; done)), H', ⟨by have := HJ1.out; first | omega | exact Nat.le_refl _⟩, ⟨bkw BK104.out⟩, ⟨hbw HB.out⟩⟩
     ·rw [if_neg c9] at H
      have c9b0 : decide (a0_1 < 0) = false := decide_eq_false c9; clear c9
      (first | rw [c9b0] | (simp only [i64_w, i32_w]; rw [c9b0]) | skip)
      by_cases c11 : a0_1 > a0_2
      ·rw [if_pos c11] at H
       have c11b0 : decide (a0_2 < a0_1) = true := decide_eq_true c11; clear c11; have H' := sA H; clear H; obtain ⟨_,_,_,_,_,_,_,_,_,_,_,_,_,_⟩ := cQ7 BK104
       go_wp2
       go_meet
       case rel => exact ⟨_, (true), (by first | rfl | (simp; done) | (simp [*]; done)), H', ⟨by have := HJ1.out; first | omega | exact Nat.le_refl _⟩, ⟨bkw BK104.out⟩, ⟨hbw HB.out⟩⟩
      ·rw [if_neg c11] at H
       have c11b0 : decide (a0_2 < a0_1) = false := decide_eq_false c11; clear c11; have H' := sA H; clear H; obtain ⟨_,_,_,_,_,_,_,_,_,_,_,_,_,_⟩ := cQ7 BK104
       go_wp2
       go_meet
       case rel => exact ⟨_, (decide (a0_2 > 1099511627776)), (by first | rfl | (simp; done) | (simp [*]; done)), H', ⟨by have := HJ1.out; first | omega | exact Nat.le_refl _⟩, ⟨bkw BK104.out⟩, ⟨hbw HB.out⟩⟩
    case rest =>
     clear HC8
     try clear c7
     obtain ⟨kq, x12_7, rfl, HA, HJ7, BK104, HB⟩ := hcut
     cases kq with
     | zero => exact absurd HA.out (by simp [event_Valid.j1])
     | succ kj7 =>
      have H := HA.out; clear HA
      simp only [event_Valid.j1] at H
      by_cases c14 : x12_7 = true
      ·subst c14
       have H1 : (some false) = some r := by rw [if_pos rfl] at H; exact H
       clear H; have H := H1; clear H1; obtain rfl := Option.some.inj H
       go_wp2
       go_ret
       exact ⟨eW_, hbw HB.out⟩
      ·replace c14 := Bool.eq_false_iff.mpr c14
       subst c14
       have H1 : (if a0_3 < (-9007199254740992) then (some false) else (if a0_3 > 9007199254740992 then (some false) else (if a0_4 < (-9007199254740992) then (some false) else (if a0_4 > 9007199254740992 then (some false) else (if (a0_5.size : Int) ≤ 4096 then (if a0_6 ≥ 0 then (some (decide (a0_6 ≤ 12))) else (some false)) else (some false)))))) = some r := by rw [if_neg (show ¬ (false = true) by decide)] at H; exact H
       clear H; have H := H1; clear H1
       by_cases c15 : a0_3 < (-9007199254740992)
       ·rw [if_pos c15] at H
        have c15b0 : decide (a0_3 < (-9007199254740992)) = true := decide_eq_true c15; clear c15; obtain rfl := Option.some.inj H; obtain ⟨_,_,_,_,_,_,_,_,_,_,_,_,_,_⟩ := cQ7 BK104
        go_wp2
        go_ret
        exact ⟨eW_, hbw HB.out⟩
       ·rw [if_neg c15] at H
        have c15b0 : decide (a0_3 < (-9007199254740992)) = false := decide_eq_false c15; clear c15
        by_cases c17 : a0_3 > 9007199254740992
        ·rw [if_pos c17] at H
         have c17b0 : decide (9007199254740992 < a0_3) = true := decide_eq_true c17; clear c17; obtain rfl := Option.some.inj H; obtain ⟨_,_,_,_,_,_,_,_,_,_,_,_,_,_⟩ := cQ7 BK104
         go_wp2
         go_ret
         exact ⟨eW_, hbw HB.out⟩
        ·rw [if_neg c17] at H
         have c17b0 : decide (9007199254740992 < a0_3) = false := decide_eq_false c17; clear c17
         by_cases c19 : a0_4 < (-9007199254740992)
         ·rw [if_pos c19] at H
          have c19b0 : decide (a0_4 < (-9007199254740992)) = true := decide_eq_true c19; clear c19; obtain rfl := Option.some.inj H; obtain ⟨_,_,_,_,_,_,_,_,_,_,_,_,_,_⟩ := cQ7 BK104
          go_wp2
          go_ret
          exact ⟨eW_, hbw HB.out⟩
         ·rw [if_neg c19] at H
          have c19b0 : decide (a0_4 < (-9007199254740992)) = false := decide_eq_false c19; clear c19
          by_cases c21 : a0_4 > 9007199254740992
          ·rw [if_pos c21] at H
           have c21b0 : decide (9007199254740992 < a0_4) = true := decide_eq_true c21; clear c21; obtain rfl := Option.some.inj H; obtain ⟨_,_,_,_,_,_,_,_,_,_,_,_,_,_⟩ := cQ7 BK104
           go_wp2
           go_ret
           exact ⟨eW_, hbw HB.out⟩
          ·rw [if_neg c21] at H
           have c21b0 : decide (9007199254740992 < a0_4) = false := decide_eq_false c21; clear c21
           by_cases c23 : (a0_5.size : Int) ≤ 4096
           ·rw [if_pos c23] at H
            have c23b0 : decide ((a0_5.size : Int) ≤ 4096) = true := decide_eq_true c23; have c23b1 : decide (a0_5.size ≤ 4096) = true := decide_eq_true (by omega); clear c23
            by_cases c24 : a0_6 ≥ 0
            ·rw [if_pos c24] at H
             have c24b0 : decide (0 ≤ a0_6) = true := decide_eq_true c24; clear c24; obtain rfl := Option.some.inj H; obtain ⟨_,_,_,_,_,_,_,_,_,_,_,_,_,_⟩ := cQ7 BK104
             go_wp2
             go_ret
             exact ⟨eW_, hbw HB.out⟩
            ·rw [if_neg c24] at H
             have c24b0 : decide (0 ≤ a0_6) = false := decide_eq_false c24; clear c24; obtain rfl := Option.some.inj H; obtain ⟨_,_,_,_,_,_,_,_,_,_,_,_,_,_⟩ := cQ7 BK104
             go_wp2
             go_ret
             exact ⟨eW_, hbw HB.out⟩
           ·rw [if_neg c23] at H
            have c23b0 : decide ((a0_5.size : Int) ≤ 4096) = false := decide_eq_false c23; have c23b1 : decide (a0_5.size ≤ 4096) = false := decide_eq_false (by omega); clear c23; obtain rfl := Option.some.inj H; obtain ⟨_,_,_,_,_,_,_,_,_,_,_,_,_,_⟩ := cQ7 BK104
            go_wp2
            go_ret
            exact ⟨eW_, hbw HB.out⟩

/-! ### check_Named: function 38: proved by hand -/

/-! ### check_Right: function 40 -/
def check_Right.j0 : Nat → Bool → Int → Int → Int → Int → Bool → Option (Bool)
 | 0, _, _, _, _, _, _ => none
 | k + 1, x11, x106000, x106001, x106002, x106003, x106004 => if x11 = true then (some false) else (if 0 ≤ x106000 then (if x106001 < 0 then (some false) else (if x106001 > (wrap64 ((shl .i64 1 x106000) - 1)) then (some false) else (if x106002 < 0 then (some false) else (if x106002 > (wrap64 ((shl .i64 1 x106000) - 1)) then (some false) else (if x106003 < 0 then (some false) else (if x106003 > (wrap64 ((shl .i64 1 x106000) - 1)) then (some false) else (some ((Int.tmod x106001 2) == 1)))))))) else (none))
def check_Right.f (k : Nat) (a0_0 : Int) (a0_1 : Int) (a0_2 : Int) (a0_3 : Int) (a0_4 : Bool) : Option (Bool) := if a0_0 < 1 then (check_Right.j0 k true a0_0 a0_1 a0_2 a0_3 a0_4) else (check_Right.j0 k (decide (a0_0 > 32)) a0_0 a0_1 a0_2 a0_3 a0_4)
theorem check_Right.mono_l : ∀ k, (∀ y0 y1 y2 y3 y4 y5, LeO (check_Right.j0 k y0 y1 y2 y3 y4 y5) (check_Right.j0 (k + 1) y0 y1 y2 y3 y4 y5))
 | 0 => fun _ _ _ _ _ _ r h => by simp [check_Right.j0] at h
 | k + 1 => by
  have ih0 := check_Right.mono_l k
  ·intro y0 y1 y2 y3 y4 y5
   unfold check_Right.j0
   repeat' first
   | (with_reducible exact ih0 _ _ _ _ _ _)
   | (with_reducible exact LeO.refl _)
   | (with_reducible exact LeO.none _)
   | (with_reducible refine LeO.ite ?_ ?_)
   | (with_reducible refine LeO.bind ?_ (fun _ => ?_))
   | exact ih0 _ _ _ _ _ _
   | exact LeO.none _
   | refine LeO.ite ?_ ?_
   | refine LeO.bind ?_ (fun _ => ?_)
theorem check_Right.mono : ∀ a0 a1 a2 a3 a4 k, LeO (check_Right.f k a0 a1 a2 a3 a4) (check_Right.f (k + 1) a0 a1 a2 a3 a4) := by
 intro a0 a1 a2 a3 a4 k; have ih0 := check_Right.mono_l k
 unfold check_Right.f
 repeat' first
   | (with_reducible exact ih0 _ _ _ _ _ _)
   | (with_reducible exact LeO.refl _)
   | (with_reducible exact LeO.none _)
   | (with_reducible refine LeO.ite ?_ ?_)
   | (with_reducible refine LeO.bind ?_ (fun _ => ?_))
   | exact ih0 _ _ _ _ _ _
   | exact LeO.none _
   | refine LeO.ite ?_ ?_
   | refine LeO.bind ?_ (fun _ => ?_)
set_option maxHeartbeats 8000000 in
set_option maxRecDepth 100000 in
theorem check_Right.calls (k : Nat) (a0_0 : Int) (a0_1 : Int) (a0_2 : Int) (a0_3 : Int) (a0_4 : Bool) (r : Bool) (w : World) (h : check_Right.f k a0_0 a0_1 a0_2 a0_3 a0_4 = some r) :
  Calls Tryd.prog 40 #[.agg #[.int .i64 a0_0, .int .i64 a0_1, .int .i64 a0_2, .int .i64 a0_3, .bool a0_4]] w fun e w' => e = .returned (.bool r) ∧ Below w.heap.size w w' := by
 have hu67 := Tryd.underlying67; have HB := sA (Below.refl w.heap.size w); have H : (if a0_0 < 1 then (check_Right.j0 k true a0_0 a0_1 a0_2 a0_3 a0_4) else (check_Right.j0 k (decide (a0_0 > 32)) a0_0 a0_1 a0_2 a0_3 a0_4)) = some r := h; clear h; have HC2 := sA H; clear H
 go_enter Tryd.func40, Tryd.ntmps40
 go_upto_region 1 with (first | ((with_reducible refine gate_dst (N := 1) rfl ?_); refine boxK 1 #[.int .i64 a0_0, .int .i64 a0_1, .int .i64 a0_2, .int .i64 a0_3, .bool a0_4] 67 ?_; intro gb105 hg w3 hbox hb; have BK105 := sA hbox; have GW105 := bsz HB hg; have GE105 := bsz HB hg; replace HB := bst HB hb; clear hb hbox hg))
 (try simp only [Act.put, List.setIfInBounds_toArray, List.set_cons_zero, List.set_cons_succ])
 go_cut [11] (fun v11 wc => ∃ (kq : Nat) (x11_1 : Bool), v11 = .bool x11_1 ∧ Aside0 (check_Right.j0 kq x11_1 a0_0 a0_1 a0_2 a0_3 a0_4 = some r) ∧ Aside0 (kq ≤ k) ∧ Aside0 (wc.heap[gb105]? = some (.cells #[.int .i64 a0_0, .int .i64 a0_1, .int .i64 a0_2, .int .i64 a0_3, .bool a0_4] 67 (0, 0))) ∧ Aside0 (Below w.heap.size w wc))
 case first =>
  have H := HC2.out; clear HC2
  by_cases c4 : a0_0 < 1
  ·rw [if_pos c4] at H
   have c4b0 : decide (a0_0 < 1) = true := decide_eq_true c4; clear c4
   (first | rw [c4b0] | (simp only [i64_w, i32_w]; rw [c4b0]) | skip)
   have H' := sA H; clear H; obtain ⟨_,_,_,_,_,_,_,_,_,_⟩ := cQ5 BK105
   go_wp2
   go_meet
   case rel => exact ⟨_, (true), (by first | rfl | (simp; done) | (simp [*]; done)), H', ⟨by first | omega | exact Nat.le_refl _⟩, ⟨bkw BK105.out⟩, ⟨hbw HB.out⟩⟩
  ·rw [if_neg c4] at H
   have c4b0 : decide (a0_0 < 1) = false := decide_eq_false c4; clear c4
   (first | rw [c4b0] | (simp only [i64_w, i32_w]; rw [c4b0]) | skip)
   have H' := sA H; clear H; obtain ⟨_,_,_,_,_,_,_,_,_,_⟩ := cQ5 BK105
   go_wp2
   go_meet
   case rel => exact ⟨_, (decide (a0_0 > 32)), (by first | rfl | (simp; done) | (simp [*]; done)), H', ⟨by first | omega | exact Nat.le_refl _⟩, ⟨bkw BK105.out⟩, ⟨hbw HB.out⟩⟩
 case rest =>
  clear HC2
  obtain ⟨kq, x11_1, rfl, HA, HJ1, BK105, HB⟩ := hcut
  cases kq with
  | zero => exact absurd HA.out (by simp [check_Right.j0])
  | succ kj1 =>
   have H := HA.out; clear HA
   simp only [check_Right.j0] at H
   by_cases c7 : x11_1 = true
   ·subst c7
    have H1 : (some false) = some r := by rw [if_pos rfl] at H; exact H
    clear H; have H := H1; clear H1; obtain rfl := Option.some.inj H
    go_wp2
    go_ret
    exact ⟨eW_, hbw HB.out⟩
   ·replace c7 := Bool.eq_false_iff.mpr c7
    subst c7
    have H1 : (if 0 ≤ a0_0 then (if a0_1 < 0 then (some false) else (if a0_1 > (wrap64 ((shl .i64 1 a0_0) - 1)) then (some false) else (if a0_2 < 0 then (some false) else (if a0_2 > (wrap64 ((shl .i64 1 a0_0) - 1)) then (some false) else (if a0_3 < 0 then (some false) else (if a0_3 > (wrap64 ((shl .i64 1 a0_0) - 1)) then (some false) else (some ((Int.tmod a0_1 2) == 1)))))))) else (none)) = some r := by rw [if_neg (show ¬ (false = true) by decide)] at H; exact H
    clear H; have H := H1; clear H1
    by_cases c8 : 0 ≤ a0_0
    ·rw [if_pos c8] at H
     have c8b0 := eq_true c8; have c8b1 : decide (0 ≤ a0_0) = true := decide_eq_true c8; clear c8; obtain ⟨ji9, hji9⟩ : ∃ j_ : Int, (shl .i64 1 a0_0) = j_ := ⟨_, rfl⟩
     replace H : (if a0_1 < 0 then (some false) else (if a0_1 > (wrap64 ((ji9) - 1)) then (some false) else (if a0_2 < 0 then (some false) else (if a0_2 > (wrap64 ((ji9) - 1)) then (some false) else (if a0_3 < 0 then (some false) else (if a0_3 > (wrap64 ((ji9) - 1)) then (some false) else (some ((Int.tmod a0_1 2) == 1)))))))) = some r := by first | (rw [hji9] at H; exact H) | (simp only [hji9] at H ⊢; exact H)
     have hji9_ : (IntKind.i64.wrap (1 * 2 ^ min a0_0.toNat 64)) = ji9 := hji9; have hji9z : a0_0 ≤ 64 → (IntKind.i64.wrap (1 * 2 ^ a0_0.toNat)) = ji9 := shl_small hji9
     have hji9u : (IntKind.i64.wrap (2 ^ min a0_0.toNat 64)) = ji9 := by have h_ := hji9_; rw [Int.one_mul] at h_; exact h_
     have hji9v : a0_0 ≤ 64 → (IntKind.i64.wrap (2 ^ a0_0.toNat)) = ji9 := fun hle_ => by have h_ := hji9z hle_; rw [Int.one_mul] at h_; exact h_
     have hji9y : (wrap64 (1 * 2 ^ min a0_0.toNat 64)) = ji9 := (i64_w _).symm.trans hji9_
     have hji9x : a0_0 ≤ 64 → (wrap64 (1 * 2 ^ a0_0.toNat)) = ji9 := fun h_ => (i64_w _).symm.trans (hji9z h_)
     by_cases c10 : a0_1 < 0
     ·rw [if_pos c10] at H
      have c10b0 : decide (a0_1 < 0) = true := decide_eq_true c10; clear c10; obtain rfl := Option.some.inj H; obtain ⟨_,_,_,_,_,_,_,_,_,_⟩ := cQ5 BK105
      go_wp2
      go_ret
      exact ⟨by first | rfl | (simp [errW_none, errW_some] <;> rfl) | (simp only [← hji9]; first | rfl | (simp [errW_none, errW_some] <;> rfl)) | (simp [*, errW_none, errW_some] <;> rfl), hbw HB.out⟩
     ·rw [if_neg c10] at H
      have c10b0 : decide (a0_1 < 0) = false := decide_eq_false c10; clear c10
      by_cases c12 : a0_1 > (wrap64 ((ji9) - 1))
      ·rw [if_pos c12] at H
       have c12b0 : decide ((wrap64 ((ji9) - 1)) < a0_1) = true := decide_eq_true c12; clear c12; obtain rfl := Option.some.inj H; obtain ⟨_,_,_,_,_,_,_,_,_,_⟩ := cQ5 BK105
       go_wp2
       go_ret
       exact ⟨by first | rfl | (simp [errW_none, errW_some] <;> rfl) | (simp only [← hji9]; first | rfl | (simp [errW_none, errW_some] <;> rfl)) | (simp [*, errW_none, errW_some] <;> rfl), hbw HB.out⟩
      ·rw [if_neg c12] at H
       have c12b0 : decide ((wrap64 ((ji9) - 1)) < a0_1) = false := decide_eq_false c12; clear c12
       by_cases c14 : a0_2 < 0
       ·rw [if_pos c14] at H
        have c14b0 : decide (a0_2 < 0) = true := decide_eq_true c14; clear c14; obtain rfl := Option.some.inj H; obtain ⟨_,_,_,_,_,_,_,_,_,_⟩ := cQ5 BK105
        go_wp2
        go_ret
        exact ⟨by first | rfl | (simp [errW_none, errW_some] <;> rfl) | (simp only [← hji9]; first | rfl | (simp [errW_none, errW_some] <;> rfl)) | (simp [*, errW_none, errW_some] <;> rfl), hbw HB.out⟩
       ·rw [if_neg c14] at H
        have c14b0 : decide (a0_2 < 0) = false := decide_eq_false c14; clear c14
        by_cases c16 : a0_2 > (wrap64 ((ji9) - 1))
        ·rw [if_pos c16] at H
         have c16b0 : decide ((wrap64 ((ji9) - 1)) < a0_2) = true := decide_eq_true c16; clear c16; obtain rfl := Option.some.inj H; obtain ⟨_,_,_,_,_,_,_,_,_,_⟩ := cQ5 BK105
         go_wp2
         go_ret
         exact ⟨by first | rfl | (simp [errW_none, errW_some] <;> rfl) | (simp only [← hji9]; first | rfl | (simp [errW_none, errW_some] <;> rfl)) | (simp [*, errW_none, errW_some] <;> rfl), hbw HB.out⟩
        ·rw [if_neg c16] at H
         have c16b0 : decide ((wrap64 ((ji9) - 1)) < a0_2) = false := decide_eq_false c16; clear c16
         by_cases c18 : a0_3 < 0
         ·rw [if_pos c18] at H
          have c18b0 : decide (a0_3 < 0) = true := decide_eq_true c18; clear c18; obtain rfl := Option.some.inj H; obtain ⟨_,_,_,_,_,_,_,_,_,_⟩ := cQ5 BK105
          go_wp2
          go_ret
          exact ⟨by first | rfl | (simp [errW_none, errW_some] <;> rfl) | (simp only [← hji9]; first | rfl | (simp [errW_none, errW_some] <;> rfl)) | (simp [*, errW_none, errW_some] <;> rfl), hbw HB.out⟩
         ·rw [if_neg c18] at H
          have c18b0 : decide (a0_3 < 0) = false := decide_eq_false c18; clear c18
          by_cases c20 : a0_3 > (wrap64 ((ji9) - 1))
          ·rw [if_pos c20] at H
           have c20b0 : decide ((wrap64 ((ji9) - 1)) < a0_3) = true := decide_eq_true c20; clear c20; obtain rfl := Option.some.inj H; obtain ⟨_,_,_,_,_,_,_,_,_,_⟩ := cQ5 BK105
           go_wp2
           go_ret
           exact ⟨by first | rfl | (simp [errW_none, errW_some] <;> rfl) | (simp only [← hji9]; first | rfl | (simp [errW_none, errW_some] <;> rfl)) | (simp [*, errW_none, errW_some] <;> rfl), hbw HB.out⟩
          ·rw [if_neg c20] at H
           have c20b0 : decide ((wrap64 ((ji9) - 1)) < a0_3) = false := decide_eq_false c20; clear c20; obtain rfl := Option.some.inj H; obtain ⟨_,_,_,_,_,_,_,_,_,_⟩ := cQ5 BK105
           go_wp2
           go_ret
           exact ⟨by first | rfl | (simp [errW_none, errW_some] <;> rfl) | (simp only [← hji9]; first | rfl | (simp [errW_none, errW_some] <;> rfl)) | (simp [*, errW_none, errW_some] <;> rfl), hbw HB.out⟩
    ·rw [if_neg c8] at H
     exact absurd H (by simp)

end Go.Proofs.YtmalhgidhieamaaDoor.PModbusDecodes
