-- Written by a program of this session (wip/tools/pr.py), which calls the kit's print with changes of its own.
import Derived.Test.YtpgeomgaphodkaaPStuffFaultsx0
import Derived.Test.YtpgeomgaphodkaaPStuffFaultsx4
import Derived.Test.YtpgeomgaphodkaaPStuffFaultsx5
import Derived.Test.YtpgeomgaphodkaaPStuffFaultsx6
import Derived.Test.YtpgeomgaphodkaaPStuffFaultsx7
import Derived.Test.YtpgeomgaphodkaaPStuffFaultsx8
namespace Go.Proofs.Ytpgeomgaphodkaa.PStuffFaults
open Go.RowKit Go.Proofs.YtpgeomgaphodkaaW.PrintWords Go.Proofs.YtpgeomgaphodkaaW.PrintLast Go.Proofs.YtpgeomgaphodkaaW.PrintMore
attribute [local go_sem] max2_int min2_int max_two min_two max_three min_three max_four min_four   -- for this text's walks alone
set_option linter.unusedVariables false
set_option linter.unusedSimpArgs false

/-! ### signalbenchlaw19_StuffFaults: function 6 -/
mutual
def signalbenchlaw19_StuffFaults.j0 : Nat → List (S45) → Int → Bool → Option (Bool)
 | 0, _, _, _ => none
 | k + 1, x1, x224000, x224001 => (stuff_Encode.f k x224000 x224001 x1).bind fun bt226 => (if bt226.2 = 0 then (signalbenchlaw19_StuffFaults.j1 k x1 bt226.1 x224000 x224001) else (if (bt226.1.length : Int) = 0 then ((signalbenchlaw19_awake.f k).bind fun t230 => (some t230)) else (some false)))
def signalbenchlaw19_StuffFaults.j1 : Nat → List (S45) → List (S45) → Int → Bool → Option (Bool)
 | 0, _, _, _, _ => none
 | k + 1, x1, x5, x224000, x224001 => signalbenchlaw19_StuffFaults.l0 k x1 x5 (⟨#[]⟩ : ByteArray) 0 0 x224000 x224001
def signalbenchlaw19_StuffFaults.l0 : Nat → List (S45) → List (S45) → ByteArray → Int → Int → Int → Bool → Option (Bool)
 | 0, _, _, _, _, _, _, _ => none
 | k + 1, x1, x5, x7, x8, x9, x224000, x224001 => if x9 < (x1.length : Int) then (if 0 ≤ x9 then (if x7.size + ((rd_T45 x1 x9).f3).size ≤ 9223372036854775807 then (if ((rd_T45 x1 x9).f4) = 0 then (signalbenchlaw19_StuffFaults.l0 k x1 x5 (x7 ++ ((rd_T45 x1 x9).f3)) x8 (wrap64 (x9 + 1)) x224000 x224001) else (signalbenchlaw19_StuffFaults.l0 k x1 x5 (x7 ++ ((rd_T45 x1 x9).f3)) (wrap64 (x8 + 1)) (wrap64 (x9 + 1)) x224000 x224001)) else (none)) else (none)) else ((signalbenchlaw19_ideal.f k x5).bind fun t233 => ((stuff_Decode.f k x224000 x224001 t233).bind fun t236 => (signalbenchlaw19_StuffFaults.l1 k x7 x8 t236 0 0)))
def signalbenchlaw19_StuffFaults.l1 : Nat → ByteArray → Int → List (S33) → Int → Int → Option (Bool)
 | 0, _, _, _, _, _ => none
 | k + 1, x7, x8, x10, x11, x12 => if x12 < (x10.length : Int) then (if 0 ≤ x12 then (if ((rd_T33 x10 x12).f6) = 4 then (signalbenchlaw19_StuffFaults.l1 k x7 (wrap64 (x8 - 1)) x10 x11 (wrap64 (x12 + 1))) else (if ((rd_T33 x10 x12).f6) = 0 then (if x11 ≥ (x7.size : Int) then (some false) else (if 0 ≤ x11 then (if x11 < (x7.size : Int) then (if ((((rd_T33 x10 x12).f3) == 1) != ((bt x7 x11) == 49)) = true then (some false) else (signalbenchlaw19_StuffFaults.l1 k x7 x8 x10 (wrap64 (x11 + 1)) (wrap64 (x12 + 1)))) else (none)) else (none))) else (some false))) else (none)) else (if x8 = 0 then (if x11 = (x7.size : Int) then ((signalbenchlaw19_awake.f k).bind fun t239 => (some t239)) else (some false)) else (some false))
end
def signalbenchlaw19_StuffFaults.f (k : Nat) (a0_0 : Int) (a0_1 : Bool) (l1 : List (S45)) : Option (Bool) := (signalbenchlaw19_tiny.f k l1).bind fun t224 => (if t224 = true then (signalbenchlaw19_StuffFaults.j0 k l1 a0_0 a0_1) else ((signalbenchlaw19_awake.f k).bind fun t225 => (some t225)))
theorem signalbenchlaw19_StuffFaults.mono_l : ∀ k, (∀ y0 y1 y2, LeO (signalbenchlaw19_StuffFaults.j0 k y0 y1 y2) (signalbenchlaw19_StuffFaults.j0 (k + 1) y0 y1 y2)) ∧ (∀ y0 y1 y2 y3, LeO (signalbenchlaw19_StuffFaults.j1 k y0 y1 y2 y3) (signalbenchlaw19_StuffFaults.j1 (k + 1) y0 y1 y2 y3)) ∧ (∀ y0 y1 y2 y3 y4 y5 y6, LeO (signalbenchlaw19_StuffFaults.l0 k y0 y1 y2 y3 y4 y5 y6) (signalbenchlaw19_StuffFaults.l0 (k + 1) y0 y1 y2 y3 y4 y5 y6)) ∧ (∀ y0 y1 y2 y3 y4, LeO (signalbenchlaw19_StuffFaults.l1 k y0 y1 y2 y3 y4) (signalbenchlaw19_StuffFaults.l1 (k + 1) y0 y1 y2 y3 y4))
 | 0 => ⟨fun _ _ _ r h => by simp [signalbenchlaw19_StuffFaults.j0] at h, fun _ _ _ _ r h => by simp [signalbenchlaw19_StuffFaults.j1] at h, fun _ _ _ _ _ _ _ r h => by simp [signalbenchlaw19_StuffFaults.l0] at h, fun _ _ _ _ _ r h => by simp [signalbenchlaw19_StuffFaults.l1] at h⟩
 | k + 1 => by
  obtain ⟨ih0, ih1, ih2, ih3⟩ := signalbenchlaw19_StuffFaults.mono_l k
  refine ⟨?_, ?_, ?_, ?_⟩
  ·intro y0 y1 y2
   unfold signalbenchlaw19_StuffFaults.j0
   repeat' first
   | (with_reducible exact ih0 _ _ _)
   | (with_reducible exact ih1 _ _ _ _)
   | (with_reducible exact ih2 _ _ _ _ _ _ _)
   | (with_reducible exact ih3 _ _ _ _ _)
   | (with_reducible exact signalbenchlaw19_awake.mono _)
   | (with_reducible exact signalbenchlaw19_ideal.mono _ _)
   | (with_reducible exact signalbenchlaw19_tiny.mono _ _)
   | (with_reducible exact stuff_Decode.mono _ _ _ _)
   | (with_reducible exact stuff_Encode.mono _ _ _ _)
   | (with_reducible exact LeO.refl _)
   | (with_reducible exact LeO.none _)
   | (with_reducible refine LeO.ite ?_ ?_)
   | (with_reducible refine LeO.bind ?_ (fun _ => ?_))
   | exact ih0 _ _ _
   | exact ih1 _ _ _ _
   | exact ih2 _ _ _ _ _ _ _
   | exact ih3 _ _ _ _ _
   | exact signalbenchlaw19_awake.mono _
   | exact signalbenchlaw19_ideal.mono _ _
   | exact signalbenchlaw19_tiny.mono _ _
   | exact stuff_Decode.mono _ _ _ _
   | exact stuff_Encode.mono _ _ _ _
   | exact LeO.none _
   | refine LeO.ite ?_ ?_
   | refine LeO.bind ?_ (fun _ => ?_)
  ·intro y0 y1 y2 y3
   unfold signalbenchlaw19_StuffFaults.j1
   repeat' first
   | (with_reducible exact ih0 _ _ _)
   | (with_reducible exact ih1 _ _ _ _)
   | (with_reducible exact ih2 _ _ _ _ _ _ _)
   | (with_reducible exact ih3 _ _ _ _ _)
   | (with_reducible exact signalbenchlaw19_awake.mono _)
   | (with_reducible exact signalbenchlaw19_ideal.mono _ _)
   | (with_reducible exact signalbenchlaw19_tiny.mono _ _)
   | (with_reducible exact stuff_Decode.mono _ _ _ _)
   | (with_reducible exact stuff_Encode.mono _ _ _ _)
   | (with_reducible exact LeO.refl _)
   | (with_reducible exact LeO.none _)
   | (with_reducible refine LeO.ite ?_ ?_)
   | (with_reducible refine LeO.bind ?_ (fun _ => ?_))
   | exact ih0 _ _ _
   | exact ih1 _ _ _ _
   | exact ih2 _ _ _ _ _ _ _
   | exact ih3 _ _ _ _ _
   | exact signalbenchlaw19_awake.mono _
   | exact signalbenchlaw19_ideal.mono _ _
   | exact signalbenchlaw19_tiny.mono _ _
   | exact stuff_Decode.mono _ _ _ _
   | exact stuff_Encode.mono _ _ _ _
   | exact LeO.none _
   | refine LeO.ite ?_ ?_
   | refine LeO.bind ?_ (fun _ => ?_)
  ·intro y0 y1 y2 y3 y4 y5 y6
   unfold signalbenchlaw19_StuffFaults.l0
   repeat' first
   | (with_reducible exact ih0 _ _ _)
   | (with_reducible exact ih1 _ _ _ _)
   | (with_reducible exact ih2 _ _ _ _ _ _ _)
   | (with_reducible exact ih3 _ _ _ _ _)
   | (with_reducible exact signalbenchlaw19_awake.mono _)
   | (with_reducible exact signalbenchlaw19_ideal.mono _ _)
   | (with_reducible exact signalbenchlaw19_tiny.mono _ _)
   | (with_reducible exact stuff_Decode.mono _ _ _ _)
   | (with_reducible exact stuff_Encode.mono _ _ _ _)
   | (with_reducible exact LeO.refl _)
   | (with_reducible exact LeO.none _)
   | (with_reducible refine LeO.ite ?_ ?_)
   | (with_reducible refine LeO.bind ?_ (fun _ => ?_))
   | exact ih0 _ _ _
   | exact ih1 _ _ _ _
   | exact ih2 _ _ _ _ _ _ _
   | exact ih3 _ _ _ _ _
   | exact signalbenchlaw19_awake.mono _
   | exact signalbenchlaw19_ideal.mono _ _
   | exact signalbenchlaw19_tiny.mono _ _
   | exact stuff_Decode.mono _ _ _ _
   | exact stuff_Encode.mono _ _ _ _
   | exact LeO.none _
   | refine LeO.ite ?_ ?_
   | refine LeO.bind ?_ (fun _ => ?_)
  ·intro y0 y1 y2 y3 y4
   unfold signalbenchlaw19_StuffFaults.l1
   repeat' first
   | (with_reducible exact ih0 _ _ _)
   | (with_reducible exact ih1 _ _ _ _)
   | (with_reducible exact ih2 _ _ _ _ _ _ _)
   | (with_reducible exact ih3 _ _ _ _ _)
   | (with_reducible exact signalbenchlaw19_awake.mono _)
   | (with_reducible exact signalbenchlaw19_ideal.mono _ _)
   | (with_reducible exact signalbenchlaw19_tiny.mono _ _)
   | (with_reducible exact stuff_Decode.mono _ _ _ _)
   | (with_reducible exact stuff_Encode.mono _ _ _ _)
   | (with_reducible exact LeO.refl _)
   | (with_reducible exact LeO.none _)
   | (with_reducible refine LeO.ite ?_ ?_)
   | (with_reducible refine LeO.bind ?_ (fun _ => ?_))
   | exact ih0 _ _ _
   | exact ih1 _ _ _ _
   | exact ih2 _ _ _ _ _ _ _
   | exact ih3 _ _ _ _ _
   | exact signalbenchlaw19_awake.mono _
   | exact signalbenchlaw19_ideal.mono _ _
   | exact signalbenchlaw19_tiny.mono _ _
   | exact stuff_Decode.mono _ _ _ _
   | exact stuff_Encode.mono _ _ _ _
   | exact LeO.none _
   | refine LeO.ite ?_ ?_
   | refine LeO.bind ?_ (fun _ => ?_)
theorem signalbenchlaw19_StuffFaults.mono : ∀ a0 a1 a2 k, LeO (signalbenchlaw19_StuffFaults.f k a0 a1 a2) (signalbenchlaw19_StuffFaults.f (k + 1) a0 a1 a2) := by
 intro a0 a1 a2 k
 obtain ⟨ih0, ih1, ih2, ih3⟩ := signalbenchlaw19_StuffFaults.mono_l k
 unfold signalbenchlaw19_StuffFaults.f
 repeat' first
   | (with_reducible exact ih0 _ _ _)
   | (with_reducible exact ih1 _ _ _ _)
   | (with_reducible exact ih2 _ _ _ _ _ _ _)
   | (with_reducible exact ih3 _ _ _ _ _)
   | (with_reducible exact signalbenchlaw19_awake.mono _)
   | (with_reducible exact signalbenchlaw19_ideal.mono _ _)
   | (with_reducible exact signalbenchlaw19_tiny.mono _ _)
   | (with_reducible exact stuff_Decode.mono _ _ _ _)
   | (with_reducible exact stuff_Encode.mono _ _ _ _)
   | (with_reducible exact LeO.refl _)
   | (with_reducible exact LeO.none _)
   | (with_reducible refine LeO.ite ?_ ?_)
   | (with_reducible refine LeO.bind ?_ (fun _ => ?_))
   | exact ih0 _ _ _
   | exact ih1 _ _ _ _
   | exact ih2 _ _ _ _ _ _ _
   | exact ih3 _ _ _ _ _
   | exact signalbenchlaw19_awake.mono _
   | exact signalbenchlaw19_ideal.mono _ _
   | exact signalbenchlaw19_tiny.mono _ _
   | exact stuff_Decode.mono _ _ _ _
   | exact stuff_Encode.mono _ _ _ _
   | exact LeO.none _
   | refine LeO.ite ?_ ?_
   | refine LeO.bind ?_ (fun _ => ?_)
def signalbenchlaw19_StuffFaults.T20 : Bool × List (List Nat × List Nat) := (true, [([], []), ([], []), ([0, 1], [0, 1]), ([2], [2]), ([3], [3]), ([4], [4]), ([5], [5]), ([6], [6]), ([6], [6]), ([8, 6], [6, 8]), ([7, 9, 6], [6, 7, 9]), ([6, 10], [6, 10]), ([11, 6], [11]), ([12], [12]), ([12], [12]), ([13, 14, 12], [12, 13, 14]), ([15, 12], [12, 15]), ([16, 12], [12, 16]), ([17, 12], [12, 17]), ([12], [12]), ([12], [12]), ([19, 20, 12], [12, 19, 20]), ([21, 12], [12, 21]), ([18, 22, 12], [12, 18, 22]), ([12, 23], [12, 23])])
def signalbenchlaw19_StuffFaults.B20 : List Nat := [0, 0, 3, 7, 15, 31, 63, 127, 127, 383, 1023, 2047, 4095, 8191, 8191, 32767, 65535, 131071, 262143, 8191, 8191, 1581055, 3678207, 8388607, 16777215]
theorem signalbenchlaw19_StuffFaults.tab20 : rtab .any (opsOf Try.f6 20) = signalbenchlaw19_StuffFaults.T20 := by kernel_rfl
theorem signalbenchlaw19_StuffFaults.bits20 : waitsOk signalbenchlaw19_StuffFaults.T20.2 signalbenchlaw19_StuffFaults.B20 = true := by kernel_rfl
set_option maxHeartbeats 8000000 in
set_option maxRecDepth 100000 in
theorem signalbenchlaw19_StuffFaults.calls (k : Nat) (a0_0 : Int) (a0_1 : Bool) (A1 : Option Addr) (c1 : Nat) (l1 : List (S45)) (r : Bool) (w : World) (hr1 : Kd.C k45 w A1 l1.length l1) (hc1 : l1.length ≤ c1) (h : signalbenchlaw19_StuffFaults.f k a0_0 a0_1 l1 = some r) :
  Calls Try.prog 6 #[.agg #[.int .i64 a0_0, .bool a0_1], .slice A1 l1.length c1] w fun e w' => e = .returned (.bool r) ∧ Below w.heap.size w w' := by
 have hu23 := Try.underlying23
 have HR1 := Aside0.mk hr1
 have HC1 := Aside0.mk hc1
 clear hr1 hc1
 have HB := Aside0.mk (Below.refl w.heap.size w)
 have H : ((signalbenchlaw19_tiny.f k l1).bind fun t224 => (if t224 = true then (signalbenchlaw19_StuffFaults.j0 k l1 a0_0 a0_1) else ((signalbenchlaw19_awake.f k).bind fun t225 => (some t225)))) = some r := h
 clear h
 replace H := Option.bind_eq_some_iff.mp H
 obtain ⟨t224, A30, H⟩ := H
 replace H : (if t224 = true then (signalbenchlaw19_StuffFaults.j0 k l1 a0_0 a0_1) else ((signalbenchlaw19_awake.f k).bind fun t225 => (some t225))) = some r := H
 have A3 := Aside0.mk A30
 clear A30
 have HC4 := Aside0.mk H
 clear H
 go_enter Try.func6, Try.ntmps6
 go_upto_if 15 with (first | ((with_reducible refine gate_dst (N := 2) rfl ?_); (try (refine gate_guard (by first | rfl | (go_simp; done)) ?_; dsimp only)); refine box_event ?hg (N := 2) ?hd (cs := #[.int .i64 a0_0, .bool a0_1]) (t := 23) ?hr ?_; (case hd => rfl); (case hg => rfl); (case hr => first | (go_simp; done) | (go_simp; rfl)); intro gb223 hg w5 hbox hb; have n0_ := Aside0.mk (below_step (hbw HB.out) hb); have n1_ := Aside0.mk (hbox); have n2_ := Aside0.mk ((by rw [hg]; exact (below_size (hbw HB.out)) : w.heap.size ≤ gb223)); have n3_ := Aside0.mk ((by rw [hg]; exact (below_size (hbw HB.out)) : w.heap.size ≤ gb223)); clear HB; have HB := n0_; have BK223 := n1_; have GW223 := n2_; have GE223 := n3_; clear n0_ n1_ n2_ n3_; clear hb hbox hg) | ((with_reducible refine gate_callee (f := 20) rfl ?_); refine goesL_ (some 14) rfl rfl Try.func20 (by kernel_rfl) rfl #[.slice A1 l1.length c1] rfl (by (try simp only [List.map_toArray, List.map_cons, List.map_nil]); first | done | rfl | (simp only [List.length_drop, List.length_take]; rfl)) ?_; (with_reducible refine (signalbenchlaw19_tiny.calls k _ _ l1 t224 _ ?side1 ?side2 A3.out).mono ?_); (case side1 => repeat (first | exact (Kd.C_below HR1.out HB.out) | (with_reducible refine Kd.C_alloc ?_ _) | (with_reducible refine Kd.C_drewN ?_ _) | (with_reducible refine Kd.C_drew ?_))); (case side2 => exact HC1.out); rintro e w' ⟨rfl, ⟨nd, rfl⟩⟩; refine ⟨_, rfl, ?_⟩))
 (try simp only [Act.put, List.setIfInBounds_toArray, List.set_cons_zero, List.set_cons_succ])
 go_cut [] (fun wc => ∃ (kq : Nat), Aside0 (signalbenchlaw19_StuffFaults.j0 kq l1 a0_0 a0_1 = some r) ∧ Aside0 (kq ≤ k) ∧ Aside0 (wc.heap[gb223]? = some (.cells #[.int .i64 a0_0, .bool a0_1] 23 (0, 0))) ∧ Aside0 (Below w.heap.size w wc))
 case first =>
  have H := HC4.out
  clear HC4
  by_cases c6 : t224 = true
  ·subst c6
   have H1 : (signalbenchlaw19_StuffFaults.j0 k l1 a0_0 a0_1) = some r := by rw [if_pos rfl] at H; exact H
   clear H
   have H := H1
   clear H1
   have H' := Aside0.mk H
   clear H
   go_wp2
   go_meet
   case rel => exact ⟨_, H', ⟨by first | omega | exact Nat.le_refl _⟩, ⟨by (with_reducible repeat (first | refine blk_drewN ?_ _ | refine blk_drew ?_ | refine blk_alloc ?_ _)); exact BK223.out⟩, ⟨by repeat (first | (with_reducible first | exact HB.out | apply below_alloc | apply pw_below_drewN | apply below_drew1 | refine below_set ?_ GE223.out) | exact HB.out)⟩⟩
  ·replace c6 := Bool.eq_false_iff.mpr c6
   subst c6
   have H1 : ((signalbenchlaw19_awake.f k).bind fun t225 => (some t225)) = some r := by rw [if_neg (show ¬ (false = true) by decide)] at H; exact H
   clear H
   have H := H1
   clear H1
   replace H := Option.bind_eq_some_iff.mp H
   obtain ⟨t225, A70, H⟩ := H
   replace H : (some t225) = some r := H
   have A7 := Aside0.mk A70
   clear A70
   obtain rfl := Option.some.inj H
   go_wp2_with (first | ((with_reducible refine gate_callee (f := 9) rfl ?_); refine goesL_ (some 16) rfl rfl Try.func9 (by kernel_rfl) rfl #[] rfl (by (try simp only [List.map_toArray, List.map_cons, List.map_nil]); first | done | rfl | (simp only [List.length_drop, List.length_take]; rfl)) ?_; (with_reducible refine (signalbenchlaw19_awake.calls k  t225 _ A7.out).mono ?_); rintro e w8 ⟨rfl, hb⟩; refine ⟨_, rfl, ?_⟩; have n0_ := Aside0.mk (blkb BK223.out hb); have n1_ := Aside0.mk (below_step (hbw HB.out) hb); clear BK223; clear HB; have BK223 := n0_; have HB := n1_; clear n0_ n1_; (try clear hb); (try clear hb2); (try clear hk); (try clear hi)))
   go_ret
   exact ⟨by first | rfl | (simp [errW_none, errW_some] <;> rfl) | (simp [*, errW_none, errW_some] <;> rfl), by repeat (first | (with_reducible first | exact HB.out | apply below_alloc | apply pw_below_drewN | apply below_drew1 | refine below_set ?_ GE223.out) | exact HB.out)⟩
 case rest =>
  clear HC4
  try clear c1
  try clear c2
  try clear p2
  try clear c6
  obtain ⟨kq, HA, HJ3, BK223, HB⟩ := hcut
  cases kq with
  | zero => exact absurd HA.out (by simp [signalbenchlaw19_StuffFaults.j0])
  | succ kj3 =>
   have H := HA.out
   clear HA
   simp only [signalbenchlaw19_StuffFaults.j0] at H
   replace H := Option.bind_eq_some_iff.mp H
   obtain ⟨⟨t226, t229⟩, A90, H⟩ := H
   replace H : (if t229 = 0 then (signalbenchlaw19_StuffFaults.j1 kj3 l1 t226 a0_0 a0_1) else (if (t226.length : Int) = 0 then ((signalbenchlaw19_awake.f kj3).bind fun t230 => (some t230)) else (some false))) = some r := H
   have A9 := Aside0.mk A90
   clear A90
   have HC10 := Aside0.mk H
   clear H
   have hcz11_0 : wc.cell? ⟨gb223, 0, none⟩ = some (.int .i64 a0_0) := (blk_cell BK223.out 0).trans rfl
   have hcz11_1 : wc.cell? ⟨gb223, 1, none⟩ = some (.bool a0_1) := (blk_cell BK223.out 1).trans rfl
   have hfz11_0 := blk_frozen BK223.out 0
   have hfz11_1 := blk_frozen BK223.out 1
   go_upto_if 24 with (first | ((with_reducible refine gate_callee (f := 21) rfl ?_); refine goesL_ (some 20) rfl rfl Try.func21 (by kernel_rfl) rfl #[.agg #[.int .i64 a0_0, .bool a0_1], .slice A1 l1.length c1] rfl (by (try simp only [List.map_toArray, List.map_cons, List.map_nil]); first | done | rfl | (simp only [List.length_drop, List.length_take]; rfl)) ?_; (with_reducible refine (stuff_Encode.calls kj3 a0_0 a0_1 _ _ l1 t226 t229 _ ?side1 ?side2 A9.out).mono ?_); (case side1 => repeat (first | exact (Kd.C_below HR1.out HB.out) | (with_reducible refine Kd.C_alloc ?_ _) | (with_reducible refine Kd.C_drewN ?_ _) | (with_reducible refine Kd.C_drew ?_))); (case side2 => exact HC1.out); rintro e w12 ⟨v227, rfl, ho0, hb⟩; refine ⟨_, rfl, ?_⟩; have n0_ := Aside0.mk (Kd.R_lower ho0 (below_size (hbw HB.out))); have n1_ := Aside0.mk (blkb BK223.out hb); have n2_ := Aside0.mk (below_step (hbw HB.out) hb); clear BK223; clear HB; have HO228 := n0_; have BK223 := n1_; have HB := n2_; clear n0_ n1_ n2_; (try clear hb); (try clear hb2); (try clear hk); (try clear hi); (try clear ho0)))
   (try simp only [Act.put, List.setIfInBounds_toArray, List.set_cons_zero, List.set_cons_succ])
   go_cut [] (fun wc => ∃ (kq : Nat), Aside0 (signalbenchlaw19_StuffFaults.j1 kq l1 t226 a0_0 a0_1 = some r) ∧ Aside0 (kq ≤ kj3) ∧ Aside0 (Kd.R k45 45 wc w.heap.size (fun _ => True) v227 t226) ∧ Aside0 (wc.heap[gb223]? = some (.cells #[.int .i64 a0_0, .bool a0_1] 23 (0, 0))) ∧ Aside0 (Below w.heap.size w wc))
   case first =>
    have H := HC10.out
    clear HC10
    by_cases c13 : t229 = 0
    ·rw [if_pos c13] at H
     have c13b0 : (t229 == 0) = true := beq_iff_eq.mpr c13
     have c13b1 : (t229 != 0) = false := bne_eq_false_iff_eq.mpr c13
     clear c13
     (first | rw [c13b0] | (simp only [i64_w, i32_w]; rw [c13b0]) | skip)
     have H' := Aside0.mk H
     clear H
     go_wp2
     go_meet
     case rel => exact ⟨_, H', ⟨by have := HJ3.out; first | omega | exact Nat.le_refl _⟩, ⟨by (with_reducible repeat (first | apply Kd.R_alloc | apply Kd.R_drewN | apply Kd.R_drew)); exact HO228.out⟩, ⟨by (with_reducible repeat (first | refine blk_drewN ?_ _ | refine blk_drew ?_ | refine blk_alloc ?_ _)); exact BK223.out⟩, ⟨by repeat (first | (with_reducible first | exact HB.out | apply below_alloc | apply pw_below_drewN | apply below_drew1 | refine below_set ?_ GE223.out) | exact HB.out)⟩⟩
    ·rw [if_neg c13] at H
     have c13b0 : (t229 == 0) = false := beq_eq_false_iff_ne.mpr c13
     have c13b1 : (t229 != 0) = true := bne_iff_ne.mpr c13
     (first | rw [c13b0] | (simp only [i64_w, i32_w]; rw [c13b0]) | skip)
     by_cases c14 : (t226.length : Int) = 0
     ·rw [if_pos c14] at H
      have c14b0 : ((t226.length : Int) == 0) = true := beq_iff_eq.mpr c14
      have c14b1 : ((t226.length : Int) != 0) = false := bne_eq_false_iff_eq.mpr c14
      clear c14
      replace H := Option.bind_eq_some_iff.mp H
      obtain ⟨t230, A150, H⟩ := H
      replace H : (some t230) = some r := H
      have A15 := Aside0.mk A150
      clear A150
      obtain rfl := Option.some.inj H
      obtain ⟨Ao16, co16, eo16⟩ := Kd.R_slice HO228.out
      subst eo16
      go_wp2_with (first | (go_at_call 9; (with_reducible refine (signalbenchlaw19_awake.calls kj3  t230 _ A15.out).mono ?_); rintro e w17 ⟨rfl, hb⟩; have n0_ := Aside0.mk (Kd.R_below (rkw HO228.out) hb); have n1_ := Aside0.mk (blkb BK223.out hb); have n2_ := Aside0.mk (below_step (hbw HB.out) hb); clear HO228; clear BK223; clear HB; have HO228 := n0_; have BK223 := n1_; have HB := n2_; clear n0_ n1_ n2_; (try clear hb); (try clear hb2); (try clear hk); (try clear hi)))
      go_ret
      exact ⟨by first | rfl | (simp [errW_none, errW_some] <;> rfl) | (simp [*, errW_none, errW_some] <;> rfl), by repeat (first | (with_reducible first | exact HB.out | apply below_alloc | apply pw_below_drewN | apply below_drew1 | refine below_set ?_ GE223.out) | exact HB.out)⟩
     ·rw [if_neg c14] at H
      have c14b0 : ((t226.length : Int) == 0) = false := beq_eq_false_iff_ne.mpr c14
      have c14b1 : ((t226.length : Int) != 0) = true := bne_iff_ne.mpr c14
      have c14b2 : ¬ (t226 = []) := fun h_ => c14 (by rw [h_]; rfl)
      obtain rfl := Option.some.inj H
      obtain ⟨Ao18, co18, eo18⟩ := Kd.R_slice HO228.out
      subst eo18
      go_wp2
      go_ret
      exact ⟨by first | rfl | (simp [errW_none, errW_some] <;> rfl) | (simp [*, errW_none, errW_some] <;> rfl), by repeat (first | (with_reducible first | exact HB.out | apply below_alloc | apply pw_below_drewN | apply below_drew1 | refine below_set ?_ GE223.out) | exact HB.out)⟩
   case rest =>
    clear HC10
    try clear c1
    try clear c2
    try clear p2
    try clear c6
    try clear c9
    try clear c13
    try clear c13b0
    try clear c13b1
    try clear c14
    try clear c14b0
    try clear c14b1
    try clear c14b2
    try clear hcz11_0
    try clear hcz11_1
    try clear hfz11_0
    try clear hfz11_1
    try clear p2
    obtain ⟨kq, HA, HJ9, HO_5, BK223, HB⟩ := hcut
    cases kq with
    | zero => exact absurd HA.out (by simp [signalbenchlaw19_StuffFaults.j1])
    | succ kj9 =>
     have H := HA.out
     clear HA
     simp only [signalbenchlaw19_StuffFaults.j1] at H
     have H' := Aside0.mk H
     clear H
     go_wp2
     go_loopg [7, 8, 9] kj9 (fun kq v7 v8 v9 w' => ∃ (x7_3 : ByteArray) (x8_3 : Int) (x9_3 : Int), v7 = .string x7_3 ∧ v8 = .int .i64 x8_3 ∧ v9 = .int .i64 x9_3 ∧ Aside0 (signalbenchlaw19_StuffFaults.l0 kq l1 t226 x7_3 x8_3 x9_3 a0_0 a0_1 = some r) ∧ Aside0 (kq ≤ kj9) ∧ Aside0 (Kd.R k45 45 w' w.heap.size (fun _ => True) v227 t226) ∧ Aside0 (w'.heap[gb223]? = some (.cells #[.int .i64 a0_0, .bool a0_1] 23 (0, 0))) ∧ Aside0 (Below w.heap.size w w'))
     case atStart => exact ⟨((⟨#[]⟩ : ByteArray)), (0), (0), (by first | rfl | (simp; done) | (simp [*]; done)), (by first | rfl | (simp; done) | (simp [*]; done)), (by first | rfl | (simp; done) | (simp [*]; done)), H', ⟨Nat.le_refl _⟩, ⟨by (with_reducible repeat (first | apply Kd.R_alloc | apply Kd.R_drewN | apply Kd.R_drew)); exact HO_5.out⟩, ⟨by (with_reducible repeat (first | refine blk_drewN ?_ _ | refine blk_drew ?_ | refine blk_alloc ?_ _)); exact BK223.out⟩, ⟨by repeat (first | (with_reducible first | exact HB.out | apply below_alloc | apply pw_below_drewN | apply below_drew1 | refine below_set ?_ GE223.out) | exact HB.out)⟩⟩
     case round =>
      clear H'
      try clear c1
      try clear c2
      try clear p2
      try clear c6
      try clear c9
      try clear c13
      try clear c13b0
      try clear c13b1
      try clear c14
      try clear c14b0
      try clear c14b1
      try clear c14b2
      try clear hcz11_0
      try clear hcz11_1
      try clear hfz11_0
      try clear hfz11_1
      try clear p2
      obtain ⟨x7_3, x8_3, x9_3, rfl, rfl, rfl, HA, HK3, HO_5, BK223, HB⟩ := hrel
      cases gk with
      | zero => exact absurd HA.out (by simp [signalbenchlaw19_StuffFaults.l0])
      | succ k3 =>
       have H := HA.out
       clear HA
       simp only [signalbenchlaw19_StuffFaults.l0] at H
       by_cases c19 : x9_3 < (l1.length : Int)
       ·rw [if_pos c19] at H
        have c19b0 : decide (x9_3 < (l1.length : Int)) = true := decide_eq_true c19
        clear c19
        by_cases c20 : 0 ≤ x9_3
        ·rw [if_pos c20] at H
         have c20b0 : decide (0 ≤ x9_3) = true := decide_eq_true c20
         clear c20
         by_cases c21 : x7_3.size + ((rd_T45 l1 x9_3).f3).size ≤ 9223372036854775807
         ·rw [if_pos c21] at H
          have c21b0 := eq_true c21
          have c21b1 : decide (x7_3.size + ((rd_T45 l1 x9_3).f3).size ≤ 9223372036854775807) = true := decide_eq_true c21
          try have c21b2 : (9223372036854775807 < x7_3.size + ((rd_T45 l1 x9_3).f3).size) = False := eq_false (Nat.not_lt.2 c21)
          by_cases c22 : ((rd_T45 l1 x9_3).f4) = 0
          ·rw [if_pos c22] at H
           have c22b0 : (((rd_T45 l1 x9_3).f4) == 0) = true := beq_iff_eq.mpr c22
           have c22b1 : (((rd_T45 l1 x9_3).f4) != 0) = false := bne_eq_false_iff_eq.mpr c22
           clear c22
           have H' := Aside0.mk H
           clear H
           have p231 : 0 ≤ (x9_3 : Int) := of_decide_eq_true (by first | (with_reducible assumption) | assumption)
           have q231 : x9_3 < (l1.length : Int) := of_decide_eq_true (by first | (with_reducible assumption) | assumption)
           obtain ⟨ad231, e231, hx231_0, hx231_1, hx231_2, hx231_3, hx231_4⟩ := at_T45 HR1.out x9_3 p231 q231
           cases e231
           replace hx231_0 := (HB.out.cell (World.block_lt_of_cell? w _ hx231_0)).trans hx231_0
           replace hx231_1 := (HB.out.cell (World.block_lt_of_cell? w _ hx231_1)).trans hx231_1
           replace hx231_2 := (HB.out.cell (World.block_lt_of_cell? w _ hx231_2)).trans hx231_2
           replace hx231_3 := (HB.out.cell (World.block_lt_of_cell? w _ hx231_3)).trans hx231_3
           replace hx231_4 := (HB.out.cell (World.block_lt_of_cell? w _ hx231_4)).trans hx231_4
           replace p231 := eq_true p231
           replace q231 := eq_true q231
           have p232 : 0 ≤ (x9_3 : Int) := of_decide_eq_true (by first | (with_reducible assumption) | assumption)
           have q232 : x9_3 < (l1.length : Int) := of_decide_eq_true (by first | (with_reducible assumption) | assumption)
           obtain ⟨ad232, e232, hx232_0, hx232_1, hx232_2, hx232_3, hx232_4⟩ := at_T45 HR1.out x9_3 p232 q232
           obtain rfl : ad231 = ad232 := (by injection e232)
           replace hx232_0 := (HB.out.cell (World.block_lt_of_cell? w _ hx232_0)).trans hx232_0
           replace hx232_1 := (HB.out.cell (World.block_lt_of_cell? w _ hx232_1)).trans hx232_1
           replace hx232_2 := (HB.out.cell (World.block_lt_of_cell? w _ hx232_2)).trans hx232_2
           replace hx232_3 := (HB.out.cell (World.block_lt_of_cell? w _ hx232_3)).trans hx232_3
           replace hx232_4 := (HB.out.cell (World.block_lt_of_cell? w _ hx232_4)).trans hx232_4
           replace p232 := eq_true p232
           replace q232 := eq_true q232
           go_wp2
           go_roundg k3
           case measure => have := HJ3.out; have := HJ9.out; have := HK3.out; omega
           case rel => exact ⟨(x7_3 ++ ((rd_T45 l1 x9_3).f3)), (x8_3), (wrap64 (x9_3 + 1)), (by first | rfl | (simp; done) | (simp [*]; done)), (by first | rfl | (simp; done) | (simp [*]; done)), (by first | rfl | (simp; done) | (simp [*]; done)), H', ⟨by have := HJ3.out; have := HJ9.out; have := HK3.out; omega⟩, ⟨by (with_reducible repeat (first | apply Kd.R_alloc | apply Kd.R_drewN | apply Kd.R_drew)); exact HO_5.out⟩, ⟨by (with_reducible repeat (first | refine blk_drewN ?_ _ | refine blk_drew ?_ | refine blk_alloc ?_ _)); exact BK223.out⟩, ⟨by repeat (first | (with_reducible first | exact HB.out | apply below_alloc | apply pw_below_drewN | apply below_drew1 | refine below_set ?_ GE223.out) | exact HB.out)⟩⟩
          ·rw [if_neg c22] at H
           have c22b0 : (((rd_T45 l1 x9_3).f4) == 0) = false := beq_eq_false_iff_ne.mpr c22
           have c22b1 : (((rd_T45 l1 x9_3).f4) != 0) = true := bne_iff_ne.mpr c22
           have H' := Aside0.mk H
           clear H
           have p231 : 0 ≤ (x9_3 : Int) := of_decide_eq_true (by first | (with_reducible assumption) | assumption)
           have q231 : x9_3 < (l1.length : Int) := of_decide_eq_true (by first | (with_reducible assumption) | assumption)
           obtain ⟨ad231, e231, hx231_0, hx231_1, hx231_2, hx231_3, hx231_4⟩ := at_T45 HR1.out x9_3 p231 q231
           cases e231
           replace hx231_0 := (HB.out.cell (World.block_lt_of_cell? w _ hx231_0)).trans hx231_0
           replace hx231_1 := (HB.out.cell (World.block_lt_of_cell? w _ hx231_1)).trans hx231_1
           replace hx231_2 := (HB.out.cell (World.block_lt_of_cell? w _ hx231_2)).trans hx231_2
           replace hx231_3 := (HB.out.cell (World.block_lt_of_cell? w _ hx231_3)).trans hx231_3
           replace hx231_4 := (HB.out.cell (World.block_lt_of_cell? w _ hx231_4)).trans hx231_4
           replace p231 := eq_true p231
           replace q231 := eq_true q231
           have p232 : 0 ≤ (x9_3 : Int) := of_decide_eq_true (by first | (with_reducible assumption) | assumption)
           have q232 : x9_3 < (l1.length : Int) := of_decide_eq_true (by first | (with_reducible assumption) | assumption)
           obtain ⟨ad232, e232, hx232_0, hx232_1, hx232_2, hx232_3, hx232_4⟩ := at_T45 HR1.out x9_3 p232 q232
           obtain rfl : ad231 = ad232 := (by injection e232)
           replace hx232_0 := (HB.out.cell (World.block_lt_of_cell? w _ hx232_0)).trans hx232_0
           replace hx232_1 := (HB.out.cell (World.block_lt_of_cell? w _ hx232_1)).trans hx232_1
           replace hx232_2 := (HB.out.cell (World.block_lt_of_cell? w _ hx232_2)).trans hx232_2
           replace hx232_3 := (HB.out.cell (World.block_lt_of_cell? w _ hx232_3)).trans hx232_3
           replace hx232_4 := (HB.out.cell (World.block_lt_of_cell? w _ hx232_4)).trans hx232_4
           replace p232 := eq_true p232
           replace q232 := eq_true q232
           go_wp2
           go_roundg k3
           case measure => have := HJ3.out; have := HJ9.out; have := HK3.out; omega
           case rel => exact ⟨(x7_3 ++ ((rd_T45 l1 x9_3).f3)), (wrap64 (x8_3 + 1)), (wrap64 (x9_3 + 1)), (by first | rfl | (simp; done) | (simp [*]; done)), (by first | rfl | (simp; done) | (simp [*]; done)), (by first | rfl | (simp; done) | (simp [*]; done)), H', ⟨by have := HJ3.out; have := HJ9.out; have := HK3.out; omega⟩, ⟨by (with_reducible repeat (first | apply Kd.R_alloc | apply Kd.R_drewN | apply Kd.R_drew)); exact HO_5.out⟩, ⟨by (with_reducible repeat (first | refine blk_drewN ?_ _ | refine blk_drew ?_ | refine blk_alloc ?_ _)); exact BK223.out⟩, ⟨by repeat (first | (with_reducible first | exact HB.out | apply below_alloc | apply pw_below_drewN | apply below_drew1 | refine below_set ?_ GE223.out) | exact HB.out)⟩⟩
         ·rw [if_neg c21] at H
          exact absurd H (by simp)
        ·rw [if_neg c20] at H
         exact absurd H (by simp)
       ·rw [if_neg c19] at H
        have c19b0 : decide (x9_3 < (l1.length : Int)) = false := decide_eq_false c19
        clear c19
        replace H := Option.bind_eq_some_iff.mp H
        obtain ⟨t233, A230, H⟩ := H
        replace H : ((stuff_Decode.f k3 a0_0 a0_1 t233).bind fun t236 => (signalbenchlaw19_StuffFaults.l1 k3 x7_3 x8_3 t236 0 0)) = some r := H
        have A23 := Aside0.mk A230
        clear A230
        replace H := Option.bind_eq_some_iff.mp H
        obtain ⟨t236, A240, H⟩ := H
        replace H : (signalbenchlaw19_StuffFaults.l1 k3 x7_3 x8_3 t236 0 0) = some r := H
        have A24 := Aside0.mk A240
        clear A240
        have H' := Aside0.mk H
        clear H
        try go_wp2
        have n0_ := Aside0.mk (Kd.R_drew HO_5.out)
        have n1_ := Aside0.mk (blk_drew BK223.out)
        have n2_ := Aside0.mk (below_drew1 HB.out)
        clear HO_5
        clear BK223
        clear HB
        have HO_5 := n0_
        have BK223 := n1_
        have HB := n2_
        clear n0_ n1_ n2_
        obtain ⟨Ao26, co26, eo26⟩ := Kd.R_slice HO_5.out
        (first | subst eo26 | (injection eo26 with f1_ f2_ f3_; have f4_ := f1_.symm; have f5_ := f3_.symm; clear f1_ f2_ f3_; subst f4_; subst f5_))
        refine start_ (n := 5) (S := fun w' => w'.cell? ⟨gb223, 0, none⟩ = some (.int .i64 a0_0) ∧ w'.cell? ⟨gb223, 1, none⟩ = some (.bool a0_1)) (ds := []) #[false, false, false, false, false] (by kernel_rfl) rfl rfl ⟨(blk_cell BK223.out 0).trans rfl, (blk_cell BK223.out 1).trans rfl⟩ (fun hHeld => ?_)
        generalize wr.drew = w25 at HO_5 BK223 HB hHeld ⊢
        refine pure_ (i := 1) (N := some 53) (v := ?_) (a' := ?_) #[false, true, false, false, false] rfl rfl (by kernel_rfl) (fun _ _ _ h => h) (Or.inl ⟨by rfl, ?_⟩) ?_ ?_
        rotate_left
        ·intro w'
         go_simp
         with_reducible rfl
        rotate_left
        ·simp only [Act.put, nrm]
         rfl
        refine take_ (i := 0) (N := some 52) (v := ?_) (a' := ?_) #[true, true, false, false, false] rfl rfl (by kernel_rfl) (fun _ _ _ h => h) (Or.inl ⟨by rfl, ?_⟩) hHeld ?_ ?_
        rotate_left
        ·rintro w' ⟨s0, s1⟩
         go_simp
         with_reducible rfl
        rotate_left
        ·simp only [Act.put, nrm]
         rfl
        refine one_ (i := 2) (N := some 54) #[true, true, true, false, false] rfl rfl (by kernel_rfl) (by decide) (fun K hK => ?_)
        refine goes_ Try.func23 (by kernel_rfl) rfl #[.slice Ao26 t226.length co26] (by rfl) rfl rfl (by (try simp only [List.map_toArray, List.map_cons, List.map_nil]); first | done | rfl | (simp only [List.length_drop, List.length_take]; rfl)) ?_
        with_reducible refine (signalbenchlaw19_ideal.calls k3 _ _ t226 t233 _ ?side1 ?side2 A23.out).mono ?_
        (case side1 => repeat (first | exact (Kd.R_reads' HO_5.out).2.2 | (with_reducible refine Kd.C_alloc ?_ _) | (with_reducible refine Kd.C_drewN ?_ _) | (with_reducible refine Kd.C_drew ?_)))
        (case side2 => exact (Kd.R_reads' HO_5.out).2.1)
        rintro e w27 ⟨v234, rfl, ho0, hb⟩
        refine ⟨_, rfl, ?_⟩
        have n0_ := Aside0.mk (Kd.R_below (rkw HO_5.out) hb)
        have n1_ := Aside0.mk (Kd.R_lower ho0 (below_size (hbw HB.out)))
        have n2_ := Aside0.mk (blkb BK223.out hb)
        have n3_ := Aside0.mk (below_step (hbw HB.out) hb)
        clear HO_5
        clear BK223
        clear HB
        have HO_5 := n0_
        have HO235 := n1_
        have BK223 := n2_
        have HB := n3_
        clear n0_ n1_ n2_ n3_
        (try clear hb)
        (try clear hb2)
        (try clear hk)
        (try clear hi)
        (try clear ho0)
        obtain ⟨Ao28, co28, eo28⟩ := Kd.R_slice HO235.out
        (first | subst eo28 | (injection eo28 with f1_ f2_ f3_; have f4_ := f1_.symm; have f5_ := f3_.symm; clear f1_ f2_ f3_; subst f4_; subst f5_))
        refine hK.out _ _ ⟨(blk_cell BK223.out 0).trans rfl, (blk_cell BK223.out 1).trans rfl⟩ (fun hHeld => ?_)
        clear hK K
        refine norm_ (a' := ?_) ?_ ?_
        rotate_left
        ·show Act.put _ (some 54) _ = _
         simp only [Act.put, nrm]
         rfl
        refine one_ (i := 3) (N := some 55) #[true, true, true, true, false] rfl rfl (by kernel_rfl) (by decide) (fun K hK => ?_)
        refine goes_ Try.func18 (by kernel_rfl) rfl #[.agg #[.int .i64 a0_0, .bool a0_1], .slice Ao28 t233.length co28] (by rfl) rfl rfl (by (try simp only [List.map_toArray, List.map_cons, List.map_nil]); first | done | rfl | (simp only [List.length_drop, List.length_take]; rfl)) ?_
        with_reducible refine (stuff_Decode.calls k3 a0_0 a0_1 _ _ t233 t236 _ ?side1 ?side2 A24.out).mono ?_
        (case side1 => repeat (first | exact (Kd.R_reads' HO235.out).2.2 | (with_reducible refine Kd.C_alloc ?_ _) | (with_reducible refine Kd.C_drewN ?_ _) | (with_reducible refine Kd.C_drew ?_)))
        (case side2 => exact (Kd.R_reads' HO235.out).2.1)
        rintro e w29 ⟨v237, rfl, ho0, hb⟩
        refine ⟨_, rfl, ?_⟩
        have n0_ := Aside0.mk (Kd.R_below (rkw HO_5.out) hb)
        have n1_ := Aside0.mk (Kd.R_elder' (rkw HO235.out) (Kd.R_base ho0) hb)
        have n2_ := Aside0.mk (Kd.R_lower (Kd.R_new' ho0 (Kd.R_lt (rkw HO235.out))) (below_size (hbw HB.out)))
        have n3_ := Aside0.mk (blkb BK223.out hb)
        have n4_ := Aside0.mk (below_step (hbw HB.out) hb)
        clear HO_5
        clear HO235
        clear BK223
        clear HB
        have HO_5 := n0_
        have HO235 := n1_
        have HO238 := n2_
        have BK223 := n3_
        have HB := n4_
        clear n0_ n1_ n2_ n3_ n4_
        (try clear hb)
        (try clear hb2)
        (try clear hk)
        (try clear hi)
        (try clear ho0)
        refine hK.out _ _ ⟨(blk_cell BK223.out 0).trans rfl, (blk_cell BK223.out 1).trans rfl⟩ (fun hHeld => ?_)
        clear hK K
        refine norm_ (a' := ?_) ?_ ?_
        rotate_left
        ·show Act.put _ (some 55) _ = _
         simp only [Act.put, nrm]
         rfl
        refine pure_ (i := 4) (N := some 10) (v := ?_) (a' := ?_) #[true, true, true, true, true] rfl rfl (by kernel_rfl) (fun _ _ _ h => h) (Or.inl ⟨by rfl, ?_⟩) ?_ ?_
        rotate_left
        ·intro w'
         go_simp
         with_reducible rfl
        rotate_left
        ·simp only [Act.put, nrm]
         rfl
        refine done_ (by kernel_rfl) ?_
        try go_wp2
        go_loopg [8, 11, 12] k3 (fun kq v8 v11 v12 w' => ∃ (x8_4 : Int) (x11_4 : Int) (x12_4 : Int), v8 = .int .i64 x8_4 ∧ v11 = .int .i64 x11_4 ∧ v12 = .int .i64 x12_4 ∧ Aside0 (signalbenchlaw19_StuffFaults.l1 kq x7_3 x8_4 t236 x11_4 x12_4 = some r) ∧ Aside0 (kq ≤ k3) ∧ Aside0 (Kd.R k33 33 w' w.heap.size (fun _ => True) v237 t236) ∧ Aside0 (w'.heap[gb223]? = some (.cells #[.int .i64 a0_0, .bool a0_1] 23 (0, 0))) ∧ Aside0 (Below w.heap.size w w'))
        case atStart => exact ⟨(x8_3), (0), (0), (by first | rfl | (simp; done) | (simp [*]; done)), (by first | rfl | (simp; done) | (simp [*]; done)), (by first | rfl | (simp; done) | (simp [*]; done)), H', ⟨Nat.le_refl _⟩, ⟨by (with_reducible repeat (first | apply Kd.R_alloc | apply Kd.R_drewN | apply Kd.R_drew)); exact Kd.R_mono HO238.out (fun _ hk => trivial)⟩, ⟨by (with_reducible repeat (first | refine blk_drewN ?_ _ | refine blk_drew ?_ | refine blk_alloc ?_ _)); exact BK223.out⟩, ⟨by repeat (first | (with_reducible first | exact HB.out | apply below_alloc | apply pw_below_drewN | apply below_drew1 | refine below_set ?_ GE223.out) | exact HB.out)⟩⟩
        case round =>
         clear H'
         try clear c1
         try clear c2
         try clear p2
         try clear q2
         try clear hx2
         try clear c6
         try clear p6
         try clear c9
         try clear c13
         try clear c13b0
         try clear c13b1
         try clear c14
         try clear c14b0
         try clear c14b1
         try clear c14b2
         try clear c18
         try clear c19
         try clear c19b0
         try clear c20
         try clear c20b0
         try clear c21
         try clear c21b0
         try clear c21b1
         try clear c21b2
         try clear c22
         try clear c22b0
         try clear c22b1
         try clear c23
         try clear p23
         try clear q23
         try clear hx23
         try clear hcz11_0
         try clear hcz11_1
         try clear hfz11_0
         try clear hfz11_1
         try clear hx231_0
         try clear hx231_1
         try clear hx231_2
         try clear hx231_3
         try clear hx231_4
         try clear hx232_0
         try clear hx232_1
         try clear hx232_2
         try clear hx232_3
         try clear hx232_4
         try clear p2
         try clear p231
         try clear p232
         try clear q231
         try clear q232
         obtain ⟨x8_4, x11_4, x12_4, rfl, rfl, rfl, HA, HK4, HO_10, BK223, HB⟩ := hrel
         cases gk with
         | zero => exact absurd HA.out (by simp [signalbenchlaw19_StuffFaults.l1])
         | succ k4 =>
          have H := HA.out
          clear HA
          simp only [signalbenchlaw19_StuffFaults.l1] at H
          by_cases c30 : x12_4 < (t236.length : Int)
          ·rw [if_pos c30] at H
           have c30b0 : decide (x12_4 < (t236.length : Int)) = true := decide_eq_true c30
           clear c30
           by_cases c31 : 0 ≤ x12_4
           ·rw [if_pos c31] at H
            have c31b0 : decide (0 ≤ x12_4) = true := decide_eq_true c31
            clear c31
            by_cases c32 : ((rd_T33 t236 x12_4).f6) = 4
            ·rw [if_pos c32] at H
             have c32b0 : (((rd_T33 t236 x12_4).f6) == 4) = true := beq_iff_eq.mpr c32
             have c32b1 : (((rd_T33 t236 x12_4).f6) != 4) = false := bne_eq_false_iff_eq.mpr c32
             clear c32
             have H' := Aside0.mk H
             clear H
             obtain ⟨Ao33, co33, eo33⟩ := Kd.R_slice HO_10.out
             subst eo33
             have p240 : 0 ≤ (x12_4 : Int) := of_decide_eq_true (by first | (with_reducible assumption) | assumption)
             have q240 : x12_4 < (t236.length : Int) := of_decide_eq_true (by first | (with_reducible assumption) | assumption)
             obtain ⟨ad240, e240, hx240_0, hx240_1, hx240_2, hx240_3, hx240_4, hx240_5, hx240_6⟩ := at_T33 (Kd.R_reads' HO_10.out).2.2 x12_4 p240 q240
             cases e240
             replace p240 := eq_true p240
             replace q240 := eq_true q240
             go_wp2
             go_roundg k4
             case measure => have := HJ3.out; have := HJ9.out; have := HK3.out; have := HK4.out; omega
             case rel => exact ⟨(wrap64 (x8_4 - 1)), (x11_4), (wrap64 (x12_4 + 1)), (by first | rfl | (simp; done) | (simp [*]; done)), (by first | rfl | (simp; done) | (simp [*]; done)), (by first | rfl | (simp; done) | (simp [*]; done)), H', ⟨by have := HJ3.out; have := HJ9.out; have := HK3.out; have := HK4.out; omega⟩, ⟨by (with_reducible repeat (first | apply Kd.R_alloc | apply Kd.R_drewN | apply Kd.R_drew)); exact HO_10.out⟩, ⟨by (with_reducible repeat (first | refine blk_drewN ?_ _ | refine blk_drew ?_ | refine blk_alloc ?_ _)); exact BK223.out⟩, ⟨by repeat (first | (with_reducible first | exact HB.out | apply below_alloc | apply pw_below_drewN | apply below_drew1 | refine below_set ?_ GE223.out) | exact HB.out)⟩⟩
            ·rw [if_neg c32] at H
             have c32b0 : (((rd_T33 t236 x12_4).f6) == 4) = false := beq_eq_false_iff_ne.mpr c32
             have c32b1 : (((rd_T33 t236 x12_4).f6) != 4) = true := bne_iff_ne.mpr c32
             by_cases c34 : ((rd_T33 t236 x12_4).f6) = 0
             ·rw [if_pos c34] at H
              have c34b0 : (((rd_T33 t236 x12_4).f6) == 0) = true := beq_iff_eq.mpr c34
              have c34b1 : (((rd_T33 t236 x12_4).f6) != 0) = false := bne_eq_false_iff_eq.mpr c34
              clear c34
              by_cases c35 : x11_4 ≥ (x7_3.size : Int)
              ·rw [if_pos c35] at H
               have c35b0 : decide ((x7_3.size : Int) ≤ x11_4) = true := decide_eq_true c35
               clear c35
               obtain rfl := Option.some.inj H
               obtain ⟨Ao36, co36, eo36⟩ := Kd.R_slice HO_10.out
               subst eo36
               have p240 : 0 ≤ (x12_4 : Int) := of_decide_eq_true (by first | (with_reducible assumption) | assumption)
               have q240 : x12_4 < (t236.length : Int) := of_decide_eq_true (by first | (with_reducible assumption) | assumption)
               obtain ⟨ad240, e240, hx240_0, hx240_1, hx240_2, hx240_3, hx240_4, hx240_5, hx240_6⟩ := at_T33 (Kd.R_reads' HO_10.out).2.2 x12_4 p240 q240
               cases e240
               replace p240 := eq_true p240
               replace q240 := eq_true q240
               try go_wp2
               have n0_ := Aside0.mk (Kd.R_drew HO_10.out)
               have n1_ := Aside0.mk (blk_drew BK223.out)
               have n2_ := Aside0.mk (below_drew1 HB.out)
               clear HO_10
               clear BK223
               clear HB
               have HO_10 := n0_
               have BK223 := n1_
               have HB := n2_
               clear n0_ n1_ n2_
               have p241 : 0 ≤ (x12_4 : Int) := of_decide_eq_true (by first | (with_reducible assumption) | assumption)
               have q241 : x12_4 < (t236.length : Int) := of_decide_eq_true (by first | (with_reducible assumption) | assumption)
               obtain ⟨ad241, e241, hx241_0, hx241_1, hx241_2, hx241_3, hx241_4, hx241_5, hx241_6⟩ := at_T33 (Kd.R_reads' HO_10.out).2.2 x12_4 p241 q241
               obtain rfl : ad240 = ad241 := (by injection e241)
               replace p241 := eq_true p241
               replace q241 := eq_true q241
               refine start_ (n := 25) (S := fun w' => w'.cell? (ad240.add ((x12_4).toNat * 7)) = some (.int .i64 ((rd_T33 t236 x12_4).f0)) ∧ w'.cell? ⟨(ad240.add ((x12_4).toNat * 7)).block, (ad240.add ((x12_4).toNat * 7)).off + 1, none⟩ = some (.int .i64 ((rd_T33 t236 x12_4).f1)) ∧ w'.cell? ⟨(ad240.add ((x12_4).toNat * 7)).block, (ad240.add ((x12_4).toNat * 7)).off + 2, none⟩ = some (.int .i64 ((rd_T33 t236 x12_4).f2)) ∧ w'.cell? ⟨(ad240.add ((x12_4).toNat * 7)).block, (ad240.add ((x12_4).toNat * 7)).off + 3, none⟩ = some (.int .i64 ((rd_T33 t236 x12_4).f3)) ∧ w'.cell? ⟨(ad240.add ((x12_4).toNat * 7)).block, (ad240.add ((x12_4).toNat * 7)).off + 4, none⟩ = some (.int .i64 ((rd_T33 t236 x12_4).f4)) ∧ w'.cell? ⟨(ad240.add ((x12_4).toNat * 7)).block, (ad240.add ((x12_4).toNat * 7)).off + 5, none⟩ = some (.string ((rd_T33 t236 x12_4).f5)) ∧ w'.cell? ⟨(ad240.add ((x12_4).toNat * 7)).block, (ad240.add ((x12_4).toNat * 7)).off + 6, none⟩ = some (.int .i64 ((rd_T33 t236 x12_4).f6))) (ds := []) #[false, false, false, false, false, false, false, false, false, false, false, false, false, false, false, false, false, false, false, false, false, false, false, false, false] (by kernel_rfl) rfl rfl ⟨hx241_0, hx241_1, hx241_2, hx241_3, hx241_4, hx241_5, hx241_6⟩ (fun hHeld => ?_); refine with_tabW signalbenchlaw19_StuffFaults.tab20 signalbenchlaw19_StuffFaults.bits20 (fun HT_ HW_ => ?_)
               generalize wr.drew = w37 at HO_10 BK223 HB hx241_0 hx241_1 hx241_2 hx241_3 hx241_4 hx241_5 hx241_6 hHeld ⊢
               refine pstep 0 (some 70) #[true, false, false, false, false, false, false, false, false, false, false, false, false, false, false, false, false, false, false, false, false, false, false, false, false] HT_.out ?_
               refine pstep 1 (some 71) #[true, true, false, false, false, false, false, false, false, false, false, false, false, false, false, false, false, false, false, false, false, false, false, false, false] HT_.out ?_
               refine pstep 2 (some 72) #[true, true, true, false, false, false, false, false, false, false, false, false, false, false, false, false, false, false, false, false, false, false, false, false, false] HT_.out ?_
               refine pstep 3 (some 73) #[true, true, true, true, false, false, false, false, false, false, false, false, false, false, false, false, false, false, false, false, false, false, false, false, false] HT_.out ?_
               refine take_ (i := 4) (N := some 74) (v := ?_) (a' := ?_) #[true, true, true, true, true, false, false, false, false, false, false, false, false, false, false, false, false, false, false, false, false, false, false, false, false] rfl rfl (take_ofW HT_.out HW_.out (by kernel_rfl)) (fun _ _ _ h => h) (Or.inl ⟨by rfl, ?_⟩) hHeld ?_ ?_
               rotate_left
               ·rintro w' ⟨s0, s1, s2, s3, s4, s5, s6⟩
                go_simp
                with_reducible rfl
               rotate_left
               ·simp only [Act.put, nrm]
                rfl
               refine pstep 5 (some 75) #[true, true, true, true, true, true, false, false, false, false, false, false, false, false, false, false, false, false, false, false, false, false, false, false, false] HT_.out ?_
               refine pstep 6 (some 76) #[true, true, true, true, true, true, true, false, false, false, false, false, false, false, false, false, false, false, false, false, false, false, false, false, false] HT_.out ?_
               refine pstep 7 (some 77) #[true, true, true, true, true, true, true, true, false, false, false, false, false, false, false, false, false, false, false, false, false, false, false, false, false] HT_.out ?_
               refine pstep 8 (some 78) #[true, true, true, true, true, true, true, true, true, false, false, false, false, false, false, false, false, false, false, false, false, false, false, false, false] HT_.out ?_
               refine pstep 9 (some 79) #[true, true, true, true, true, true, true, true, true, true, false, false, false, false, false, false, false, false, false, false, false, false, false, false, false] HT_.out ?_
               refine pstep 10 (some 80) #[true, true, true, true, true, true, true, true, true, true, true, false, false, false, false, false, false, false, false, false, false, false, false, false, false] HT_.out ?_
               refine pstep 11 (some 81) #[true, true, true, true, true, true, true, true, true, true, true, true, false, false, false, false, false, false, false, false, false, false, false, false, false] HT_.out ?_
               refine pstep 12 (some 82) #[true, true, true, true, true, true, true, true, true, true, true, true, true, false, false, false, false, false, false, false, false, false, false, false, false] HT_.out ?_
               refine pure_ (i := 13) (N := some 83) (v := undef) (a' := ?_) #[true, true, true, true, true, true, true, true, true, true, true, true, true, true, false, false, false, false, false, false, false, false, false, false, false] rfl rfl (any_of HT_.out (by kernel_rfl)) (fun _ _ _ h => h) (Or.inr ⟨by rfl, rfl⟩) ?_ ?_
               rotate_left
               ·simp only [Act.put, nrm]
                rfl
               refine pure_ (i := 14) (N := some 84) (v := undef) (a' := ?_) #[true, true, true, true, true, true, true, true, true, true, true, true, true, true, true, false, false, false, false, false, false, false, false, false, false] rfl rfl (any_of HT_.out (by kernel_rfl)) (fun _ _ _ h => h) (Or.inr ⟨by rfl, rfl⟩) ?_ ?_
               rotate_left
               ·simp only [Act.put, nrm]
                rfl
               refine pure_ (i := 15) (N := some 85) (v := undef) (a' := ?_) #[true, true, true, true, true, true, true, true, true, true, true, true, true, true, true, true, false, false, false, false, false, false, false, false, false] rfl rfl (any_of HT_.out (by kernel_rfl)) (fun _ _ _ h => h) (Or.inr ⟨by rfl, rfl⟩) ?_ ?_
               rotate_left
               ·simp only [Act.put, nrm]
                rfl
               refine pure_ (i := 16) (N := some 86) (v := undef) (a' := ?_) #[true, true, true, true, true, true, true, true, true, true, true, true, true, true, true, true, true, false, false, false, false, false, false, false, false] rfl rfl (any_of HT_.out (by kernel_rfl)) (fun _ _ _ h => h) (Or.inr ⟨by rfl, rfl⟩) ?_ ?_
               rotate_left
               ·simp only [Act.put, nrm]
                rfl
               refine pure_ (i := 17) (N := some 87) (v := undef) (a' := ?_) #[true, true, true, true, true, true, true, true, true, true, true, true, true, true, true, true, true, true, false, false, false, false, false, false, false] rfl rfl (any_of HT_.out (by kernel_rfl)) (fun _ _ _ h => h) (Or.inr ⟨by rfl, rfl⟩) ?_ ?_
               rotate_left
               ·simp only [Act.put, nrm]
                rfl
               refine pure_ (i := 18) (N := some 88) (v := undef) (a' := ?_) #[true, true, true, true, true, true, true, true, true, true, true, true, true, true, true, true, true, true, true, false, false, false, false, false, false] rfl rfl (any_of HT_.out (by kernel_rfl)) (fun _ _ _ h => h) (Or.inr ⟨by rfl, rfl⟩) ?_ ?_
               rotate_left
               ·simp only [Act.put, nrm]
                rfl
               refine pure_ (i := 19) (N := some 89) (v := undef) (a' := ?_) #[true, true, true, true, true, true, true, true, true, true, true, true, true, true, true, true, true, true, true, true, false, false, false, false, false] rfl rfl (any_of HT_.out (by kernel_rfl)) (fun _ _ _ h => h) (Or.inr ⟨by rfl, rfl⟩) ?_ ?_
               rotate_left
               ·simp only [Act.put, nrm]
                rfl
               refine pure_ (i := 20) (N := some 90) (v := undef) (a' := ?_) #[true, true, true, true, true, true, true, true, true, true, true, true, true, true, true, true, true, true, true, true, true, false, false, false, false] rfl rfl (any_of HT_.out (by kernel_rfl)) (fun _ _ _ h => h) (Or.inr ⟨by rfl, rfl⟩) ?_ ?_
               rotate_left
               ·simp only [Act.put, nrm]
                rfl
               refine pure_ (i := 21) (N := some 91) (v := undef) (a' := ?_) #[true, true, true, true, true, true, true, true, true, true, true, true, true, true, true, true, true, true, true, true, true, true, false, false, false] rfl rfl (any_of HT_.out (by kernel_rfl)) (fun _ _ _ h => h) (Or.inr ⟨by rfl, rfl⟩) ?_ ?_
               rotate_left
               ·simp only [Act.put, nrm]
                rfl
               refine pure_ (i := 22) (N := some 92) (v := undef) (a' := ?_) #[true, true, true, true, true, true, true, true, true, true, true, true, true, true, true, true, true, true, true, true, true, true, true, false, false] rfl rfl (any_of HT_.out (by kernel_rfl)) (fun _ _ _ h => h) (Or.inr ⟨by rfl, rfl⟩) ?_ ?_
               rotate_left
               ·simp only [Act.put, nrm]
                rfl
               refine pure_ (i := 23) (N := some 93) (v := undef) (a' := ?_) #[true, true, true, true, true, true, true, true, true, true, true, true, true, true, true, true, true, true, true, true, true, true, true, true, false] rfl rfl (any_of HT_.out (by kernel_rfl)) (fun _ _ _ h => h) (Or.inr ⟨by rfl, rfl⟩) ?_ ?_
               rotate_left
               ·simp only [Act.put, nrm]
                rfl
               refine pstep 24 (some 94) #[true, true, true, true, true, true, true, true, true, true, true, true, true, true, true, true, true, true, true, true, true, true, true, true, true] HT_.out ?_
               refine done_ (done_of HT_.out (by kernel_rfl)) ?_
               try go_wp2
               go_ret
               exact ⟨by first | rfl | (simp [errW_none, errW_some] <;> rfl) | (simp [*, errW_none, errW_some] <;> rfl), by repeat (first | (with_reducible first | exact HB.out | apply below_alloc | apply pw_below_drewN | apply below_drew1 | refine below_set ?_ GE223.out) | exact HB.out)⟩
              ·rw [if_neg c35] at H
               have c35b0 : decide ((x7_3.size : Int) ≤ x11_4) = false := decide_eq_false c35
               clear c35
               by_cases c38 : 0 ≤ x11_4
               ·rw [if_pos c38] at H
                have c38b0 : decide (0 ≤ x11_4) = true := decide_eq_true c38
                clear c38
                by_cases c39 : x11_4 < (x7_3.size : Int)
                ·rw [if_pos c39] at H
                 have c39b0 : decide (x11_4 < (x7_3.size : Int)) = true := decide_eq_true c39
                 clear c39
                 by_cases c41 : ((((rd_T33 t236 x12_4).f3) == 1) != ((bt x7_3 x11_4) == 49)) = true
                 ·rw [if_pos c41] at H
                  have c41b0 : ((((rd_T33 t236 x12_4).f3) == 1) != ((bt x7_3 x11_4) == 49)) = true := c41
                  (try (have c41b1 : (!(((rd_T33 t236 x12_4).f3) == 1) == ((bt x7_3 x11_4) == 49)) = true := by have h_ : ((((rd_T33 t236 x12_4).f3) == 1) != ((bt x7_3 x11_4) == 49)) = true := c41; simpa only [bneN] using h_))
                  (try (have c41b2 : decide ((((rd_T33 t236 x12_4).f3) == 1) = ((bt x7_3 x11_4) == 49)) = false := by simpa using c41))
                  (try (have c41b3 : ((((rd_T33 t236 x12_4).f3) == 1) == ((bt x7_3 x11_4) == 49)) = false := by simpa using c41))
                  (try (have c41b4 : ¬ ((((rd_T33 t236 x12_4).f3) == 1) = ((bt x7_3 x11_4) == 49)) := by simpa using c41))
                  clear c41
                  obtain rfl := Option.some.inj H
                  obtain ⟨Ao42, co42, eo42⟩ := Kd.R_slice HO_10.out
                  subst eo42
                  have p240 : 0 ≤ (x12_4 : Int) := of_decide_eq_true (by first | (with_reducible assumption) | assumption)
                  have q240 : x12_4 < (t236.length : Int) := of_decide_eq_true (by first | (with_reducible assumption) | assumption)
                  obtain ⟨ad240, e240, hx240_0, hx240_1, hx240_2, hx240_3, hx240_4, hx240_5, hx240_6⟩ := at_T33 (Kd.R_reads' HO_10.out).2.2 x12_4 p240 q240
                  cases e240
                  replace p240 := eq_true p240
                  replace q240 := eq_true q240
                  try go_wp2
                  have n0_ := Aside0.mk (Kd.R_drew HO_10.out)
                  have n1_ := Aside0.mk (blk_drew BK223.out)
                  have n2_ := Aside0.mk (below_drew1 HB.out)
                  clear HO_10
                  clear BK223
                  clear HB
                  have HO_10 := n0_
                  have BK223 := n1_
                  have HB := n2_
                  clear n0_ n1_ n2_
                  have p241 : 0 ≤ (x12_4 : Int) := of_decide_eq_true (by first | (with_reducible assumption) | assumption)
                  have q241 : x12_4 < (t236.length : Int) := of_decide_eq_true (by first | (with_reducible assumption) | assumption)
                  obtain ⟨ad241, e241, hx241_0, hx241_1, hx241_2, hx241_3, hx241_4, hx241_5, hx241_6⟩ := at_T33 (Kd.R_reads' HO_10.out).2.2 x12_4 p241 q241
                  obtain rfl : ad240 = ad241 := (by injection e241)
                  replace p241 := eq_true p241
                  replace q241 := eq_true q241
                  have p242 : 0 ≤ (x12_4 : Int) := of_decide_eq_true (by first | (with_reducible assumption) | assumption)
                  have q242 : x12_4 < (t236.length : Int) := of_decide_eq_true (by first | (with_reducible assumption) | assumption)
                  obtain ⟨ad242, e242, hx242_0, hx242_1, hx242_2, hx242_3, hx242_4, hx242_5, hx242_6⟩ := at_T33 (Kd.R_reads' HO_10.out).2.2 x12_4 p242 q242
                  obtain rfl : ad240 = ad242 := (by injection e242)
                  replace p242 := eq_true p242
                  replace q242 := eq_true q242
                  have p40 : 0 ≤ (x11_4 : Int) := of_decide_eq_true (by first | (with_reducible assumption) | assumption)
                  have q40 : x11_4 < (x7_3.size : Int) := of_decide_eq_true (by first | (with_reducible assumption) | assumption)
                  have hx40 := bt_at x7_3 x11_4
                  replace p40 := eq_true p40
                  replace q40 := eq_true q40
                  refine start_ (n := 25) (S := fun w' => w'.cell? (ad240.add ((x12_4).toNat * 7)) = some (.int .i64 ((rd_T33 t236 x12_4).f0)) ∧ w'.cell? ⟨(ad240.add ((x12_4).toNat * 7)).block, (ad240.add ((x12_4).toNat * 7)).off + 1, none⟩ = some (.int .i64 ((rd_T33 t236 x12_4).f1)) ∧ w'.cell? ⟨(ad240.add ((x12_4).toNat * 7)).block, (ad240.add ((x12_4).toNat * 7)).off + 2, none⟩ = some (.int .i64 ((rd_T33 t236 x12_4).f2)) ∧ w'.cell? ⟨(ad240.add ((x12_4).toNat * 7)).block, (ad240.add ((x12_4).toNat * 7)).off + 3, none⟩ = some (.int .i64 ((rd_T33 t236 x12_4).f3)) ∧ w'.cell? ⟨(ad240.add ((x12_4).toNat * 7)).block, (ad240.add ((x12_4).toNat * 7)).off + 4, none⟩ = some (.int .i64 ((rd_T33 t236 x12_4).f4)) ∧ w'.cell? ⟨(ad240.add ((x12_4).toNat * 7)).block, (ad240.add ((x12_4).toNat * 7)).off + 5, none⟩ = some (.string ((rd_T33 t236 x12_4).f5)) ∧ w'.cell? ⟨(ad240.add ((x12_4).toNat * 7)).block, (ad240.add ((x12_4).toNat * 7)).off + 6, none⟩ = some (.int .i64 ((rd_T33 t236 x12_4).f6)) ∧ w'.cell? (ad240.add ((x12_4).toNat * 7)) = some (.int .i64 ((rd_T33 t236 x12_4).f0)) ∧ w'.cell? ⟨(ad240.add ((x12_4).toNat * 7)).block, (ad240.add ((x12_4).toNat * 7)).off + 1, none⟩ = some (.int .i64 ((rd_T33 t236 x12_4).f1)) ∧ w'.cell? ⟨(ad240.add ((x12_4).toNat * 7)).block, (ad240.add ((x12_4).toNat * 7)).off + 2, none⟩ = some (.int .i64 ((rd_T33 t236 x12_4).f2)) ∧ w'.cell? ⟨(ad240.add ((x12_4).toNat * 7)).block, (ad240.add ((x12_4).toNat * 7)).off + 3, none⟩ = some (.int .i64 ((rd_T33 t236 x12_4).f3)) ∧ w'.cell? ⟨(ad240.add ((x12_4).toNat * 7)).block, (ad240.add ((x12_4).toNat * 7)).off + 4, none⟩ = some (.int .i64 ((rd_T33 t236 x12_4).f4)) ∧ w'.cell? ⟨(ad240.add ((x12_4).toNat * 7)).block, (ad240.add ((x12_4).toNat * 7)).off + 5, none⟩ = some (.string ((rd_T33 t236 x12_4).f5)) ∧ w'.cell? ⟨(ad240.add ((x12_4).toNat * 7)).block, (ad240.add ((x12_4).toNat * 7)).off + 6, none⟩ = some (.int .i64 ((rd_T33 t236 x12_4).f6))) (ds := []) #[false, false, false, false, false, false, false, false, false, false, false, false, false, false, false, false, false, false, false, false, false, false, false, false, false] (by kernel_rfl) rfl rfl ⟨hx241_0, hx241_1, hx241_2, hx241_3, hx241_4, hx241_5, hx241_6, hx242_0, hx242_1, hx242_2, hx242_3, hx242_4, hx242_5, hx242_6⟩ (fun hHeld => ?_); refine with_tabW signalbenchlaw19_StuffFaults.tab20 signalbenchlaw19_StuffFaults.bits20 (fun HT_ HW_ => ?_)
                  generalize wr.drew = w43 at HO_10 BK223 HB hx241_0 hx241_1 hx241_2 hx241_3 hx241_4 hx241_5 hx241_6 hx242_0 hx242_1 hx242_2 hx242_3 hx242_4 hx242_5 hx242_6 hHeld ⊢
                  refine pstep 0 (some 70) #[true, false, false, false, false, false, false, false, false, false, false, false, false, false, false, false, false, false, false, false, false, false, false, false, false] HT_.out ?_
                  refine pstep 1 (some 71) #[true, true, false, false, false, false, false, false, false, false, false, false, false, false, false, false, false, false, false, false, false, false, false, false, false] HT_.out ?_
                  refine pstep 2 (some 72) #[true, true, true, false, false, false, false, false, false, false, false, false, false, false, false, false, false, false, false, false, false, false, false, false, false] HT_.out ?_
                  refine pstep 3 (some 73) #[true, true, true, true, false, false, false, false, false, false, false, false, false, false, false, false, false, false, false, false, false, false, false, false, false] HT_.out ?_
                  refine take_ (i := 4) (N := some 74) (v := ?_) (a' := ?_) #[true, true, true, true, true, false, false, false, false, false, false, false, false, false, false, false, false, false, false, false, false, false, false, false, false] rfl rfl (take_ofW HT_.out HW_.out (by kernel_rfl)) (fun _ _ _ h => h) (Or.inl ⟨by rfl, ?_⟩) hHeld ?_ ?_
                  rotate_left
                  ·rintro w' ⟨s0, s1, s2, s3, s4, s5, s6, s7, s8, s9, s10, s11, s12, s13⟩
                   go_simp
                   with_reducible rfl
                  rotate_left
                  ·simp only [Act.put, nrm]
                   rfl
                  refine pstep 5 (some 75) #[true, true, true, true, true, true, false, false, false, false, false, false, false, false, false, false, false, false, false, false, false, false, false, false, false] HT_.out ?_
                  refine pstep 6 (some 76) #[true, true, true, true, true, true, true, false, false, false, false, false, false, false, false, false, false, false, false, false, false, false, false, false, false] HT_.out ?_
                  refine pstep 7 (some 77) #[true, true, true, true, true, true, true, true, false, false, false, false, false, false, false, false, false, false, false, false, false, false, false, false, false] HT_.out ?_
                  refine pstep 8 (some 78) #[true, true, true, true, true, true, true, true, true, false, false, false, false, false, false, false, false, false, false, false, false, false, false, false, false] HT_.out ?_
                  refine pstep 9 (some 79) #[true, true, true, true, true, true, true, true, true, true, false, false, false, false, false, false, false, false, false, false, false, false, false, false, false] HT_.out ?_
                  refine pstep 10 (some 80) #[true, true, true, true, true, true, true, true, true, true, true, false, false, false, false, false, false, false, false, false, false, false, false, false, false] HT_.out ?_
                  refine pstep 11 (some 81) #[true, true, true, true, true, true, true, true, true, true, true, true, false, false, false, false, false, false, false, false, false, false, false, false, false] HT_.out ?_
                  refine pstep 12 (some 82) #[true, true, true, true, true, true, true, true, true, true, true, true, true, false, false, false, false, false, false, false, false, false, false, false, false] HT_.out ?_
                  refine pstep 13 (some 83) #[true, true, true, true, true, true, true, true, true, true, true, true, true, true, false, false, false, false, false, false, false, false, false, false, false] HT_.out ?_
                  refine pstep 14 (some 84) #[true, true, true, true, true, true, true, true, true, true, true, true, true, true, true, false, false, false, false, false, false, false, false, false, false] HT_.out ?_
                  refine pstep 15 (some 85) #[true, true, true, true, true, true, true, true, true, true, true, true, true, true, true, true, false, false, false, false, false, false, false, false, false] HT_.out ?_
                  refine pstep 16 (some 86) #[true, true, true, true, true, true, true, true, true, true, true, true, true, true, true, true, true, false, false, false, false, false, false, false, false] HT_.out ?_
                  refine pstep 19 (some 89) #[true, true, true, true, true, true, true, true, true, true, true, true, true, true, true, true, true, false, false, true, false, false, false, false, false] HT_.out ?_
                  refine pstep 20 (some 90) #[true, true, true, true, true, true, true, true, true, true, true, true, true, true, true, true, true, false, false, true, true, false, false, false, false] HT_.out ?_
                  refine take_ (i := 17) (N := some 87) (v := ?_) (a' := ?_) #[true, true, true, true, true, true, true, true, true, true, true, true, true, true, true, true, true, true, false, true, true, false, false, false, false] rfl rfl (take_ofW HT_.out HW_.out (by kernel_rfl)) (fun _ _ _ h => h) (Or.inl ⟨by rfl, ?_⟩) hHeld ?_ ?_
                  rotate_left
                  ·rintro w' ⟨s0, s1, s2, s3, s4, s5, s6, s7, s8, s9, s10, s11, s12, s13⟩
                   go_simp
                   with_reducible rfl
                  rotate_left
                  ·simp only [Act.put, nrm]
                   rfl
                  refine pstep 18 (some 88) #[true, true, true, true, true, true, true, true, true, true, true, true, true, true, true, true, true, true, true, true, true, false, false, false, false] HT_.out ?_
                  refine take_ (i := 21) (N := some 91) (v := ?_) (a' := ?_) #[true, true, true, true, true, true, true, true, true, true, true, true, true, true, true, true, true, true, true, true, true, true, false, false, false] rfl rfl (take_ofW HT_.out HW_.out (by kernel_rfl)) (fun _ _ _ h => h) (Or.inl ⟨by rfl, ?_⟩) hHeld ?_ ?_
                  rotate_left
                  ·rintro w' ⟨s0, s1, s2, s3, s4, s5, s6, s7, s8, s9, s10, s11, s12, s13⟩
                   go_simp
                   with_reducible rfl
                  rotate_left
                  ·simp only [Act.put, nrm]
                   rfl
                  refine pstep 22 (some 92) #[true, true, true, true, true, true, true, true, true, true, true, true, true, true, true, true, true, true, true, true, true, true, true, false, false] HT_.out ?_
                  refine pstep 23 (some 93) #[true, true, true, true, true, true, true, true, true, true, true, true, true, true, true, true, true, true, true, true, true, true, true, true, false] HT_.out ?_
                  refine pstep 24 (some 94) #[true, true, true, true, true, true, true, true, true, true, true, true, true, true, true, true, true, true, true, true, true, true, true, true, true] HT_.out ?_
                  refine done_ (done_of HT_.out (by kernel_rfl)) ?_
                  try go_wp2
                  go_ret
                  exact ⟨by first | rfl | (simp [errW_none, errW_some] <;> rfl) | (simp [*, errW_none, errW_some] <;> rfl), by repeat (first | (with_reducible first | exact HB.out | apply below_alloc | apply pw_below_drewN | apply below_drew1 | refine below_set ?_ GE223.out) | exact HB.out)⟩
                 ·rw [if_neg c41] at H
                  have c41b0 : ((((rd_T33 t236 x12_4).f3) == 1) != ((bt x7_3 x11_4) == 49)) = false := by simpa using c41
                  (try (have c41b1 : (!(((rd_T33 t236 x12_4).f3) == 1) == ((bt x7_3 x11_4) == 49)) = false := by have h_ : ((((rd_T33 t236 x12_4).f3) == 1) != ((bt x7_3 x11_4) == 49)) = false := (by simpa using c41); simpa only [bneN] using h_))
                  (try (have c41b2 : decide ((((rd_T33 t236 x12_4).f3) == 1) = ((bt x7_3 x11_4) == 49)) = true := by simpa using c41))
                  (try (have c41b3 : ((((rd_T33 t236 x12_4).f3) == 1) == ((bt x7_3 x11_4) == 49)) = true := by simpa using c41))
                  clear c41
                  have H' := Aside0.mk H
                  clear H
                  obtain ⟨Ao44, co44, eo44⟩ := Kd.R_slice HO_10.out
                  subst eo44
                  have p240 : 0 ≤ (x12_4 : Int) := of_decide_eq_true (by first | (with_reducible assumption) | assumption)
                  have q240 : x12_4 < (t236.length : Int) := of_decide_eq_true (by first | (with_reducible assumption) | assumption)
                  obtain ⟨ad240, e240, hx240_0, hx240_1, hx240_2, hx240_3, hx240_4, hx240_5, hx240_6⟩ := at_T33 (Kd.R_reads' HO_10.out).2.2 x12_4 p240 q240
                  cases e240
                  replace p240 := eq_true p240
                  replace q240 := eq_true q240
                  try go_wp2
                  have n0_ := Aside0.mk (Kd.R_drew HO_10.out)
                  have n1_ := Aside0.mk (blk_drew BK223.out)
                  have n2_ := Aside0.mk (below_drew1 HB.out)
                  clear HO_10
                  clear BK223
                  clear HB
                  have HO_10 := n0_
                  have BK223 := n1_
                  have HB := n2_
                  clear n0_ n1_ n2_
                  have p241 : 0 ≤ (x12_4 : Int) := of_decide_eq_true (by first | (with_reducible assumption) | assumption)
                  have q241 : x12_4 < (t236.length : Int) := of_decide_eq_true (by first | (with_reducible assumption) | assumption)
                  obtain ⟨ad241, e241, hx241_0, hx241_1, hx241_2, hx241_3, hx241_4, hx241_5, hx241_6⟩ := at_T33 (Kd.R_reads' HO_10.out).2.2 x12_4 p241 q241
                  obtain rfl : ad240 = ad241 := (by injection e241)
                  replace p241 := eq_true p241
                  replace q241 := eq_true q241
                  have p242 : 0 ≤ (x12_4 : Int) := of_decide_eq_true (by first | (with_reducible assumption) | assumption)
                  have q242 : x12_4 < (t236.length : Int) := of_decide_eq_true (by first | (with_reducible assumption) | assumption)
                  obtain ⟨ad242, e242, hx242_0, hx242_1, hx242_2, hx242_3, hx242_4, hx242_5, hx242_6⟩ := at_T33 (Kd.R_reads' HO_10.out).2.2 x12_4 p242 q242
                  obtain rfl : ad240 = ad242 := (by injection e242)
                  replace p242 := eq_true p242
                  replace q242 := eq_true q242
                  have p40 : 0 ≤ (x11_4 : Int) := of_decide_eq_true (by first | (with_reducible assumption) | assumption)
                  have q40 : x11_4 < (x7_3.size : Int) := of_decide_eq_true (by first | (with_reducible assumption) | assumption)
                  have hx40 := bt_at x7_3 x11_4
                  replace p40 := eq_true p40
                  replace q40 := eq_true q40
                  refine start_ (n := 25) (S := fun w' => w'.cell? (ad240.add ((x12_4).toNat * 7)) = some (.int .i64 ((rd_T33 t236 x12_4).f0)) ∧ w'.cell? ⟨(ad240.add ((x12_4).toNat * 7)).block, (ad240.add ((x12_4).toNat * 7)).off + 1, none⟩ = some (.int .i64 ((rd_T33 t236 x12_4).f1)) ∧ w'.cell? ⟨(ad240.add ((x12_4).toNat * 7)).block, (ad240.add ((x12_4).toNat * 7)).off + 2, none⟩ = some (.int .i64 ((rd_T33 t236 x12_4).f2)) ∧ w'.cell? ⟨(ad240.add ((x12_4).toNat * 7)).block, (ad240.add ((x12_4).toNat * 7)).off + 3, none⟩ = some (.int .i64 ((rd_T33 t236 x12_4).f3)) ∧ w'.cell? ⟨(ad240.add ((x12_4).toNat * 7)).block, (ad240.add ((x12_4).toNat * 7)).off + 4, none⟩ = some (.int .i64 ((rd_T33 t236 x12_4).f4)) ∧ w'.cell? ⟨(ad240.add ((x12_4).toNat * 7)).block, (ad240.add ((x12_4).toNat * 7)).off + 5, none⟩ = some (.string ((rd_T33 t236 x12_4).f5)) ∧ w'.cell? ⟨(ad240.add ((x12_4).toNat * 7)).block, (ad240.add ((x12_4).toNat * 7)).off + 6, none⟩ = some (.int .i64 ((rd_T33 t236 x12_4).f6)) ∧ w'.cell? (ad240.add ((x12_4).toNat * 7)) = some (.int .i64 ((rd_T33 t236 x12_4).f0)) ∧ w'.cell? ⟨(ad240.add ((x12_4).toNat * 7)).block, (ad240.add ((x12_4).toNat * 7)).off + 1, none⟩ = some (.int .i64 ((rd_T33 t236 x12_4).f1)) ∧ w'.cell? ⟨(ad240.add ((x12_4).toNat * 7)).block, (ad240.add ((x12_4).toNat * 7)).off + 2, none⟩ = some (.int .i64 ((rd_T33 t236 x12_4).f2)) ∧ w'.cell? ⟨(ad240.add ((x12_4).toNat * 7)).block, (ad240.add ((x12_4).toNat * 7)).off + 3, none⟩ = some (.int .i64 ((rd_T33 t236 x12_4).f3)) ∧ w'.cell? ⟨(ad240.add ((x12_4).toNat * 7)).block, (ad240.add ((x12_4).toNat * 7)).off + 4, none⟩ = some (.int .i64 ((rd_T33 t236 x12_4).f4)) ∧ w'.cell? ⟨(ad240.add ((x12_4).toNat * 7)).block, (ad240.add ((x12_4).toNat * 7)).off + 5, none⟩ = some (.string ((rd_T33 t236 x12_4).f5)) ∧ w'.cell? ⟨(ad240.add ((x12_4).toNat * 7)).block, (ad240.add ((x12_4).toNat * 7)).off + 6, none⟩ = some (.int .i64 ((rd_T33 t236 x12_4).f6))) (ds := []) #[false, false, false, false, false, false, false, false, false, false, false, false, false, false, false, false, false, false, false, false, false, false, false, false, false] (by kernel_rfl) rfl rfl ⟨hx241_0, hx241_1, hx241_2, hx241_3, hx241_4, hx241_5, hx241_6, hx242_0, hx242_1, hx242_2, hx242_3, hx242_4, hx242_5, hx242_6⟩ (fun hHeld => ?_); refine with_tabW signalbenchlaw19_StuffFaults.tab20 signalbenchlaw19_StuffFaults.bits20 (fun HT_ HW_ => ?_)
                  generalize wr.drew = w45 at HO_10 BK223 HB hx241_0 hx241_1 hx241_2 hx241_3 hx241_4 hx241_5 hx241_6 hx242_0 hx242_1 hx242_2 hx242_3 hx242_4 hx242_5 hx242_6 hHeld ⊢
                  refine pstep 0 (some 70) #[true, false, false, false, false, false, false, false, false, false, false, false, false, false, false, false, false, false, false, false, false, false, false, false, false] HT_.out ?_
                  refine pstep 1 (some 71) #[true, true, false, false, false, false, false, false, false, false, false, false, false, false, false, false, false, false, false, false, false, false, false, false, false] HT_.out ?_
                  refine pstep 2 (some 72) #[true, true, true, false, false, false, false, false, false, false, false, false, false, false, false, false, false, false, false, false, false, false, false, false, false] HT_.out ?_
                  refine pstep 3 (some 73) #[true, true, true, true, false, false, false, false, false, false, false, false, false, false, false, false, false, false, false, false, false, false, false, false, false] HT_.out ?_
                  refine take_ (i := 4) (N := some 74) (v := ?_) (a' := ?_) #[true, true, true, true, true, false, false, false, false, false, false, false, false, false, false, false, false, false, false, false, false, false, false, false, false] rfl rfl (take_ofW HT_.out HW_.out (by kernel_rfl)) (fun _ _ _ h => h) (Or.inl ⟨by rfl, ?_⟩) hHeld ?_ ?_
                  rotate_left
                  ·rintro w' ⟨s0, s1, s2, s3, s4, s5, s6, s7, s8, s9, s10, s11, s12, s13⟩
                   go_simp
                   with_reducible rfl
                  rotate_left
                  ·simp only [Act.put, nrm]
                   rfl
                  refine pstep 5 (some 75) #[true, true, true, true, true, true, false, false, false, false, false, false, false, false, false, false, false, false, false, false, false, false, false, false, false] HT_.out ?_
                  refine pstep 6 (some 76) #[true, true, true, true, true, true, true, false, false, false, false, false, false, false, false, false, false, false, false, false, false, false, false, false, false] HT_.out ?_
                  refine pstep 7 (some 77) #[true, true, true, true, true, true, true, true, false, false, false, false, false, false, false, false, false, false, false, false, false, false, false, false, false] HT_.out ?_
                  refine pstep 8 (some 78) #[true, true, true, true, true, true, true, true, true, false, false, false, false, false, false, false, false, false, false, false, false, false, false, false, false] HT_.out ?_
                  refine pstep 9 (some 79) #[true, true, true, true, true, true, true, true, true, true, false, false, false, false, false, false, false, false, false, false, false, false, false, false, false] HT_.out ?_
                  refine pstep 10 (some 80) #[true, true, true, true, true, true, true, true, true, true, true, false, false, false, false, false, false, false, false, false, false, false, false, false, false] HT_.out ?_
                  refine pstep 11 (some 81) #[true, true, true, true, true, true, true, true, true, true, true, true, false, false, false, false, false, false, false, false, false, false, false, false, false] HT_.out ?_
                  refine pstep 12 (some 82) #[true, true, true, true, true, true, true, true, true, true, true, true, true, false, false, false, false, false, false, false, false, false, false, false, false] HT_.out ?_
                  refine pstep 13 (some 83) #[true, true, true, true, true, true, true, true, true, true, true, true, true, true, false, false, false, false, false, false, false, false, false, false, false] HT_.out ?_
                  refine pstep 14 (some 84) #[true, true, true, true, true, true, true, true, true, true, true, true, true, true, true, false, false, false, false, false, false, false, false, false, false] HT_.out ?_
                  refine pstep 15 (some 85) #[true, true, true, true, true, true, true, true, true, true, true, true, true, true, true, true, false, false, false, false, false, false, false, false, false] HT_.out ?_
                  refine pstep 16 (some 86) #[true, true, true, true, true, true, true, true, true, true, true, true, true, true, true, true, true, false, false, false, false, false, false, false, false] HT_.out ?_
                  refine pstep 19 (some 89) #[true, true, true, true, true, true, true, true, true, true, true, true, true, true, true, true, true, false, false, true, false, false, false, false, false] HT_.out ?_
                  refine pstep 20 (some 90) #[true, true, true, true, true, true, true, true, true, true, true, true, true, true, true, true, true, false, false, true, true, false, false, false, false] HT_.out ?_
                  refine take_ (i := 17) (N := some 87) (v := ?_) (a' := ?_) #[true, true, true, true, true, true, true, true, true, true, true, true, true, true, true, true, true, true, false, true, true, false, false, false, false] rfl rfl (take_ofW HT_.out HW_.out (by kernel_rfl)) (fun _ _ _ h => h) (Or.inl ⟨by rfl, ?_⟩) hHeld ?_ ?_
                  rotate_left
                  ·rintro w' ⟨s0, s1, s2, s3, s4, s5, s6, s7, s8, s9, s10, s11, s12, s13⟩
                   go_simp
                   with_reducible rfl
                  rotate_left
                  ·simp only [Act.put, nrm]
                   rfl
                  refine pstep 18 (some 88) #[true, true, true, true, true, true, true, true, true, true, true, true, true, true, true, true, true, true, true, true, true, false, false, false, false] HT_.out ?_
                  refine take_ (i := 21) (N := some 91) (v := ?_) (a' := ?_) #[true, true, true, true, true, true, true, true, true, true, true, true, true, true, true, true, true, true, true, true, true, true, false, false, false] rfl rfl (take_ofW HT_.out HW_.out (by kernel_rfl)) (fun _ _ _ h => h) (Or.inl ⟨by rfl, ?_⟩) hHeld ?_ ?_
                  rotate_left
                  ·rintro w' ⟨s0, s1, s2, s3, s4, s5, s6, s7, s8, s9, s10, s11, s12, s13⟩
                   go_simp
                   with_reducible rfl
                  rotate_left
                  ·simp only [Act.put, nrm]
                   rfl
                  refine pstep 22 (some 92) #[true, true, true, true, true, true, true, true, true, true, true, true, true, true, true, true, true, true, true, true, true, true, true, false, false] HT_.out ?_
                  refine pstep 23 (some 93) #[true, true, true, true, true, true, true, true, true, true, true, true, true, true, true, true, true, true, true, true, true, true, true, true, false] HT_.out ?_
                  refine pstep 24 (some 94) #[true, true, true, true, true, true, true, true, true, true, true, true, true, true, true, true, true, true, true, true, true, true, true, true, true] HT_.out ?_
                  refine done_ (done_of HT_.out (by kernel_rfl)) ?_
                  try go_wp2
                  go_roundg k4
                  case measure => have := HJ3.out; have := HJ9.out; have := HK3.out; have := HK4.out; omega
                  case rel => exact ⟨(x8_4), (wrap64 (x11_4 + 1)), (wrap64 (x12_4 + 1)), (by first | rfl | (simp; done) | (simp [*]; done)), (by first | rfl | (simp; done) | (simp [*]; done)), (by first | rfl | (simp; done) | (simp [*]; done)), H', ⟨by have := HJ3.out; have := HJ9.out; have := HK3.out; have := HK4.out; omega⟩, ⟨by (with_reducible repeat (first | apply Kd.R_alloc | apply Kd.R_drewN | apply Kd.R_drew)); exact HO_10.out⟩, ⟨by (with_reducible repeat (first | refine blk_drewN ?_ _ | refine blk_drew ?_ | refine blk_alloc ?_ _)); exact BK223.out⟩, ⟨by repeat (first | (with_reducible first | exact HB.out | apply below_alloc | apply pw_below_drewN | apply below_drew1 | refine below_set ?_ GE223.out) | exact HB.out)⟩⟩
                ·rw [if_neg c39] at H
                 exact absurd H (by simp)
               ·rw [if_neg c38] at H
                exact absurd H (by simp)
             ·rw [if_neg c34] at H
              have c34b0 : (((rd_T33 t236 x12_4).f6) == 0) = false := beq_eq_false_iff_ne.mpr c34
              have c34b1 : (((rd_T33 t236 x12_4).f6) != 0) = true := bne_iff_ne.mpr c34
              obtain rfl := Option.some.inj H
              obtain ⟨Ao46, co46, eo46⟩ := Kd.R_slice HO_10.out
              subst eo46
              have p240 : 0 ≤ (x12_4 : Int) := of_decide_eq_true (by first | (with_reducible assumption) | assumption)
              have q240 : x12_4 < (t236.length : Int) := of_decide_eq_true (by first | (with_reducible assumption) | assumption)
              obtain ⟨ad240, e240, hx240_0, hx240_1, hx240_2, hx240_3, hx240_4, hx240_5, hx240_6⟩ := at_T33 (Kd.R_reads' HO_10.out).2.2 x12_4 p240 q240
              cases e240
              replace p240 := eq_true p240
              replace q240 := eq_true q240
              try go_wp2
              have n0_ := Aside0.mk (Kd.R_drew HO_10.out)
              have n1_ := Aside0.mk (blk_drew BK223.out)
              have n2_ := Aside0.mk (below_drew1 HB.out)
              clear HO_10
              clear BK223
              clear HB
              have HO_10 := n0_
              have BK223 := n1_
              have HB := n2_
              clear n0_ n1_ n2_
              have p241 : 0 ≤ (x12_4 : Int) := of_decide_eq_true (by first | (with_reducible assumption) | assumption)
              have q241 : x12_4 < (t236.length : Int) := of_decide_eq_true (by first | (with_reducible assumption) | assumption)
              obtain ⟨ad241, e241, hx241_0, hx241_1, hx241_2, hx241_3, hx241_4, hx241_5, hx241_6⟩ := at_T33 (Kd.R_reads' HO_10.out).2.2 x12_4 p241 q241
              obtain rfl : ad240 = ad241 := (by injection e241)
              replace p241 := eq_true p241
              replace q241 := eq_true q241
              refine start_ (n := 25) (S := fun w' => w'.cell? (ad240.add ((x12_4).toNat * 7)) = some (.int .i64 ((rd_T33 t236 x12_4).f0)) ∧ w'.cell? ⟨(ad240.add ((x12_4).toNat * 7)).block, (ad240.add ((x12_4).toNat * 7)).off + 1, none⟩ = some (.int .i64 ((rd_T33 t236 x12_4).f1)) ∧ w'.cell? ⟨(ad240.add ((x12_4).toNat * 7)).block, (ad240.add ((x12_4).toNat * 7)).off + 2, none⟩ = some (.int .i64 ((rd_T33 t236 x12_4).f2)) ∧ w'.cell? ⟨(ad240.add ((x12_4).toNat * 7)).block, (ad240.add ((x12_4).toNat * 7)).off + 3, none⟩ = some (.int .i64 ((rd_T33 t236 x12_4).f3)) ∧ w'.cell? ⟨(ad240.add ((x12_4).toNat * 7)).block, (ad240.add ((x12_4).toNat * 7)).off + 4, none⟩ = some (.int .i64 ((rd_T33 t236 x12_4).f4)) ∧ w'.cell? ⟨(ad240.add ((x12_4).toNat * 7)).block, (ad240.add ((x12_4).toNat * 7)).off + 5, none⟩ = some (.string ((rd_T33 t236 x12_4).f5)) ∧ w'.cell? ⟨(ad240.add ((x12_4).toNat * 7)).block, (ad240.add ((x12_4).toNat * 7)).off + 6, none⟩ = some (.int .i64 ((rd_T33 t236 x12_4).f6))) (ds := []) #[false, false, false, false, false, false, false, false, false, false, false, false, false, false, false, false, false, false, false, false, false, false, false, false, false] (by kernel_rfl) rfl rfl ⟨hx241_0, hx241_1, hx241_2, hx241_3, hx241_4, hx241_5, hx241_6⟩ (fun hHeld => ?_); refine with_tabW signalbenchlaw19_StuffFaults.tab20 signalbenchlaw19_StuffFaults.bits20 (fun HT_ HW_ => ?_)
              generalize wr.drew = w47 at HO_10 BK223 HB hx241_0 hx241_1 hx241_2 hx241_3 hx241_4 hx241_5 hx241_6 hHeld ⊢
              refine pstep 0 (some 70) #[true, false, false, false, false, false, false, false, false, false, false, false, false, false, false, false, false, false, false, false, false, false, false, false, false] HT_.out ?_
              refine pstep 1 (some 71) #[true, true, false, false, false, false, false, false, false, false, false, false, false, false, false, false, false, false, false, false, false, false, false, false, false] HT_.out ?_
              refine pstep 2 (some 72) #[true, true, true, false, false, false, false, false, false, false, false, false, false, false, false, false, false, false, false, false, false, false, false, false, false] HT_.out ?_
              refine pstep 3 (some 73) #[true, true, true, true, false, false, false, false, false, false, false, false, false, false, false, false, false, false, false, false, false, false, false, false, false] HT_.out ?_
              refine take_ (i := 4) (N := some 74) (v := ?_) (a' := ?_) #[true, true, true, true, true, false, false, false, false, false, false, false, false, false, false, false, false, false, false, false, false, false, false, false, false] rfl rfl (take_ofW HT_.out HW_.out (by kernel_rfl)) (fun _ _ _ h => h) (Or.inl ⟨by rfl, ?_⟩) hHeld ?_ ?_
              rotate_left
              ·rintro w' ⟨s0, s1, s2, s3, s4, s5, s6⟩
               go_simp
               with_reducible rfl
              rotate_left
              ·simp only [Act.put, nrm]
               rfl
              refine pstep 5 (some 75) #[true, true, true, true, true, true, false, false, false, false, false, false, false, false, false, false, false, false, false, false, false, false, false, false, false] HT_.out ?_
              refine pstep 6 (some 76) #[true, true, true, true, true, true, true, false, false, false, false, false, false, false, false, false, false, false, false, false, false, false, false, false, false] HT_.out ?_
              refine pure_ (i := 7) (N := some 77) (v := undef) (a' := ?_) #[true, true, true, true, true, true, true, true, false, false, false, false, false, false, false, false, false, false, false, false, false, false, false, false, false] rfl rfl (any_of HT_.out (by kernel_rfl)) (fun _ _ _ h => h) (Or.inr ⟨by rfl, rfl⟩) ?_ ?_
              rotate_left
              ·simp only [Act.put, nrm]
               rfl
              refine pure_ (i := 8) (N := some 78) (v := undef) (a' := ?_) #[true, true, true, true, true, true, true, true, true, false, false, false, false, false, false, false, false, false, false, false, false, false, false, false, false] rfl rfl (any_of HT_.out (by kernel_rfl)) (fun _ _ _ h => h) (Or.inr ⟨by rfl, rfl⟩) ?_ ?_
              rotate_left
              ·simp only [Act.put, nrm]
               rfl
              refine pure_ (i := 9) (N := some 79) (v := undef) (a' := ?_) #[true, true, true, true, true, true, true, true, true, true, false, false, false, false, false, false, false, false, false, false, false, false, false, false, false] rfl rfl (any_of HT_.out (by kernel_rfl)) (fun _ _ _ h => h) (Or.inr ⟨by rfl, rfl⟩) ?_ ?_
              rotate_left
              ·simp only [Act.put, nrm]
               rfl
              refine pure_ (i := 10) (N := some 80) (v := undef) (a' := ?_) #[true, true, true, true, true, true, true, true, true, true, true, false, false, false, false, false, false, false, false, false, false, false, false, false, false] rfl rfl (any_of HT_.out (by kernel_rfl)) (fun _ _ _ h => h) (Or.inr ⟨by rfl, rfl⟩) ?_ ?_
              rotate_left
              ·simp only [Act.put, nrm]
               rfl
              refine pstep 11 (some 81) #[true, true, true, true, true, true, true, true, true, true, true, true, false, false, false, false, false, false, false, false, false, false, false, false, false] HT_.out ?_
              refine pstep 12 (some 82) #[true, true, true, true, true, true, true, true, true, true, true, true, true, false, false, false, false, false, false, false, false, false, false, false, false] HT_.out ?_
              refine pure_ (i := 13) (N := some 83) (v := undef) (a' := ?_) #[true, true, true, true, true, true, true, true, true, true, true, true, true, true, false, false, false, false, false, false, false, false, false, false, false] rfl rfl (any_of HT_.out (by kernel_rfl)) (fun _ _ _ h => h) (Or.inr ⟨by rfl, rfl⟩) ?_ ?_
              rotate_left
              ·simp only [Act.put, nrm]
               rfl
              refine pure_ (i := 14) (N := some 84) (v := undef) (a' := ?_) #[true, true, true, true, true, true, true, true, true, true, true, true, true, true, true, false, false, false, false, false, false, false, false, false, false] rfl rfl (any_of HT_.out (by kernel_rfl)) (fun _ _ _ h => h) (Or.inr ⟨by rfl, rfl⟩) ?_ ?_
              rotate_left
              ·simp only [Act.put, nrm]
               rfl
              refine pure_ (i := 15) (N := some 85) (v := undef) (a' := ?_) #[true, true, true, true, true, true, true, true, true, true, true, true, true, true, true, true, false, false, false, false, false, false, false, false, false] rfl rfl (any_of HT_.out (by kernel_rfl)) (fun _ _ _ h => h) (Or.inr ⟨by rfl, rfl⟩) ?_ ?_
              rotate_left
              ·simp only [Act.put, nrm]
               rfl
              refine pure_ (i := 16) (N := some 86) (v := undef) (a' := ?_) #[true, true, true, true, true, true, true, true, true, true, true, true, true, true, true, true, true, false, false, false, false, false, false, false, false] rfl rfl (any_of HT_.out (by kernel_rfl)) (fun _ _ _ h => h) (Or.inr ⟨by rfl, rfl⟩) ?_ ?_
              rotate_left
              ·simp only [Act.put, nrm]
               rfl
              refine pure_ (i := 17) (N := some 87) (v := undef) (a' := ?_) #[true, true, true, true, true, true, true, true, true, true, true, true, true, true, true, true, true, true, false, false, false, false, false, false, false] rfl rfl (any_of HT_.out (by kernel_rfl)) (fun _ _ _ h => h) (Or.inr ⟨by rfl, rfl⟩) ?_ ?_
              rotate_left
              ·simp only [Act.put, nrm]
               rfl
              refine pure_ (i := 18) (N := some 88) (v := undef) (a' := ?_) #[true, true, true, true, true, true, true, true, true, true, true, true, true, true, true, true, true, true, true, false, false, false, false, false, false] rfl rfl (any_of HT_.out (by kernel_rfl)) (fun _ _ _ h => h) (Or.inr ⟨by rfl, rfl⟩) ?_ ?_
              rotate_left
              ·simp only [Act.put, nrm]
               rfl
              refine pure_ (i := 19) (N := some 89) (v := undef) (a' := ?_) #[true, true, true, true, true, true, true, true, true, true, true, true, true, true, true, true, true, true, true, true, false, false, false, false, false] rfl rfl (any_of HT_.out (by kernel_rfl)) (fun _ _ _ h => h) (Or.inr ⟨by rfl, rfl⟩) ?_ ?_
              rotate_left
              ·simp only [Act.put, nrm]
               rfl
              refine pure_ (i := 20) (N := some 90) (v := undef) (a' := ?_) #[true, true, true, true, true, true, true, true, true, true, true, true, true, true, true, true, true, true, true, true, true, false, false, false, false] rfl rfl (any_of HT_.out (by kernel_rfl)) (fun _ _ _ h => h) (Or.inr ⟨by rfl, rfl⟩) ?_ ?_
              rotate_left
              ·simp only [Act.put, nrm]
               rfl
              refine pure_ (i := 21) (N := some 91) (v := undef) (a' := ?_) #[true, true, true, true, true, true, true, true, true, true, true, true, true, true, true, true, true, true, true, true, true, true, false, false, false] rfl rfl (any_of HT_.out (by kernel_rfl)) (fun _ _ _ h => h) (Or.inr ⟨by rfl, rfl⟩) ?_ ?_
              rotate_left
              ·simp only [Act.put, nrm]
               rfl
              refine pure_ (i := 22) (N := some 92) (v := undef) (a' := ?_) #[true, true, true, true, true, true, true, true, true, true, true, true, true, true, true, true, true, true, true, true, true, true, true, false, false] rfl rfl (any_of HT_.out (by kernel_rfl)) (fun _ _ _ h => h) (Or.inr ⟨by rfl, rfl⟩) ?_ ?_
              rotate_left
              ·simp only [Act.put, nrm]
               rfl
              refine pure_ (i := 23) (N := some 93) (v := undef) (a' := ?_) #[true, true, true, true, true, true, true, true, true, true, true, true, true, true, true, true, true, true, true, true, true, true, true, true, false] rfl rfl (any_of HT_.out (by kernel_rfl)) (fun _ _ _ h => h) (Or.inr ⟨by rfl, rfl⟩) ?_ ?_
              rotate_left
              ·simp only [Act.put, nrm]
               rfl
              refine pstep 24 (some 94) #[true, true, true, true, true, true, true, true, true, true, true, true, true, true, true, true, true, true, true, true, true, true, true, true, true] HT_.out ?_
              refine done_ (done_of HT_.out (by kernel_rfl)) ?_
              try go_wp2
              go_ret
              exact ⟨by first | rfl | (simp [errW_none, errW_some] <;> rfl) | (simp [*, errW_none, errW_some] <;> rfl), by repeat (first | (with_reducible first | exact HB.out | apply below_alloc | apply pw_below_drewN | apply below_drew1 | refine below_set ?_ GE223.out) | exact HB.out)⟩
           ·rw [if_neg c31] at H
            exact absurd H (by simp)
          ·rw [if_neg c30] at H
           have c30b0 : decide (x12_4 < (t236.length : Int)) = false := decide_eq_false c30
           clear c30
           by_cases c48 : x8_4 = 0
           ·rw [if_pos c48] at H
            have c48b0 : (x8_4 == 0) = true := beq_iff_eq.mpr c48
            have c48b1 : (x8_4 != 0) = false := bne_eq_false_iff_eq.mpr c48
            clear c48
            by_cases c49 : x11_4 = (x7_3.size : Int)
            ·rw [if_pos c49] at H
             have c49b0 : (x11_4 == (x7_3.size : Int)) = true := beq_iff_eq.mpr c49
             have c49b1 : (x11_4 != (x7_3.size : Int)) = false := bne_eq_false_iff_eq.mpr c49
             clear c49
             replace H := Option.bind_eq_some_iff.mp H
             obtain ⟨t239, A500, H⟩ := H
             replace H : (some t239) = some r := H
             have A50 := Aside0.mk A500
             clear A500
             obtain rfl := Option.some.inj H
             obtain ⟨Ao51, co51, eo51⟩ := Kd.R_slice HO_10.out
             subst eo51
             go_wp2_with (first | (go_at_call 9; (with_reducible refine (signalbenchlaw19_awake.calls k4  t239 _ A50.out).mono ?_); rintro e w52 ⟨rfl, hb⟩; have n0_ := Aside0.mk (Kd.R_below (rkw HO_10.out) hb); have n1_ := Aside0.mk (blkb BK223.out hb); have n2_ := Aside0.mk (below_step (hbw HB.out) hb); clear HO_10; clear BK223; clear HB; have HO_10 := n0_; have BK223 := n1_; have HB := n2_; clear n0_ n1_ n2_; (try clear hb); (try clear hb2); (try clear hk); (try clear hi)))
             go_ret
             exact ⟨by first | rfl | (simp [errW_none, errW_some] <;> rfl) | (simp [*, errW_none, errW_some] <;> rfl), by repeat (first | (with_reducible first | exact HB.out | apply below_alloc | apply pw_below_drewN | apply below_drew1 | refine below_set ?_ GE223.out) | exact HB.out)⟩
            ·rw [if_neg c49] at H
             have c49b0 : (x11_4 == (x7_3.size : Int)) = false := beq_eq_false_iff_ne.mpr c49
             have c49b1 : (x11_4 != (x7_3.size : Int)) = true := bne_iff_ne.mpr c49
             obtain rfl := Option.some.inj H
             obtain ⟨Ao53, co53, eo53⟩ := Kd.R_slice HO_10.out
             subst eo53
             go_wp2
             go_ret
             exact ⟨by first | rfl | (simp [errW_none, errW_some] <;> rfl) | (simp [*, errW_none, errW_some] <;> rfl), by repeat (first | (with_reducible first | exact HB.out | apply below_alloc | apply pw_below_drewN | apply below_drew1 | refine below_set ?_ GE223.out) | exact HB.out)⟩
           ·rw [if_neg c48] at H
            have c48b0 : (x8_4 == 0) = false := beq_eq_false_iff_ne.mpr c48
            have c48b1 : (x8_4 != 0) = true := bne_iff_ne.mpr c48
            obtain rfl := Option.some.inj H
            obtain ⟨Ao54, co54, eo54⟩ := Kd.R_slice HO_10.out
            subst eo54
            go_wp2
            go_ret
            exact ⟨by first | rfl | (simp [errW_none, errW_some] <;> rfl) | (simp [*, errW_none, errW_some] <;> rfl), by repeat (first | (with_reducible first | exact HB.out | apply below_alloc | apply pw_below_drewN | apply below_drew1 | refine below_set ?_ GE223.out) | exact HB.out)⟩

/-- THE ONE PURE STATEMENT of signalbenchlaw19_StuffFaults: yours. -/
def signalbenchlaw19_StuffFaults.Pure : Prop := ∀ (a0_0 : Int) (a0_1 : Bool) (l1 : List (S45)), (Lit.int .i64 a0_0).wf = true → l1.length ≤ maxLen → l1.length * 48 ≤ 140737488351232 → (∀ x ∈ l1, (Lit.int .i64 x.f0).wf = true ∧ (Lit.int .i64 x.f1).wf = true ∧ (Lit.int .i64 x.f2).wf = true ∧ x.f3.size ≤ 140737488351232 ∧ (Lit.int .i64 x.f4).wf = true) → ∃ k, signalbenchlaw19_StuffFaults.f k a0_0 a0_1 l1 = some true
theorem signalbenchlaw19_StuffFaults.walk (P : signalbenchlaw19_StuffFaults.Pure) (a0_0 : Int) (a0_1 : Bool) (A1 : Option Addr) (c1 : Nat) (l1 : List (S45)) (w : World) (hr1 : Kd.C k45 w A1 l1.length l1) (hc1 : l1.length ≤ c1) (w0_ : (Lit.int .i64 a0_0).wf = true) (w1_ : l1.length ≤ maxLen) (w2_ : l1.length * 48 ≤ 140737488351232) (w3_ : (∀ x ∈ l1, (Lit.int .i64 x.f0).wf = true ∧ (Lit.int .i64 x.f1).wf = true ∧ (Lit.int .i64 x.f2).wf = true ∧ x.f3.size ≤ 140737488351232 ∧ (Lit.int .i64 x.f4).wf = true)) :
  Calls Try.prog 6 #[.agg #[.int .i64 a0_0, .bool a0_1], .slice A1 l1.length c1] w fun e w' => e = .returned (.bool true) ∧ Below w.heap.size w w' := by
 obtain ⟨k, h⟩ := P a0_0 a0_1 l1 w0_ w1_ w2_ w3_
 refine (signalbenchlaw19_StuffFaults.calls k a0_0 a0_1 A1 c1 l1 true w hr1 hc1 h).mono ?_
 rintro e w' ⟨rfl, hd⟩
 exact ⟨rfl, hd⟩

end Go.Proofs.Ytpgeomgaphodkaa.PStuffFaults
