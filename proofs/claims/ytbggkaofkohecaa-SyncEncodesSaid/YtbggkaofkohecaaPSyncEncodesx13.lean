-- Written by a program of this session (wip/tools/pr.py), which calls the kit's print with changes of its own.
import Derived.Test.YtbggkaofkohecaaPSyncEncodesx0
import Derived.Test.YtbggkaofkohecaaPSyncEncodesx11
import Derived.Test.YtbggkaofkohecaaPSyncEncodesx12
namespace Go.Proofs.Ytbggkaofkohecaa.PSyncEncodes
open Go.RowKit Go.Proofs.YtbggkaofkohecaaW.PrintWords Go.Proofs.YtbggkaofkohecaaW.PrintLast Go.Proofs.YtbggkaofkohecaaW.PrintMore
attribute [local go_sem] max2_int min2_int max_two min_two max_three min_three max_four min_four   -- for this text's walks alone
set_option linter.unusedVariables false
set_option linter.unusedSimpArgs false

/-! ### signalbenchref21_Encode: function 20 -/
mutual
def signalbenchref21_Encode.j0 : Nat → List (S46) → ByteArray → Int → Bool → Option ((List (S46)) × Int)
 | 0, _, _, _, _ => none
 | k + 1, x1, x312000, x312001, x312002 => if (x1.length : Int) > 1024 then (some (([] : List (S46)), 6)) else (signalbenchref21_Encode.j1 k x1 x312000 x312001 x312002)
def signalbenchref21_Encode.j1 : Nat → List (S46) → ByteArray → Int → Bool → Option ((List (S46)) × Int)
 | 0, _, _, _, _ => none
 | k + 1, x1, x312000, x312001, x312002 => signalbenchref21_Encode.l0 k x1 (([] : List (S46))) 0 x312000 x312001 x312002
def signalbenchref21_Encode.l0 : Nat → List (S46) → List (S46) → Int → ByteArray → Int → Bool → Option ((List (S46)) × Int)
 | 0, _, _, _, _, _, _ => none
 | k + 1, x1, x7, x8, x312000, x312001, x312002 => if x8 < (x1.length : Int) then (signalbenchref21_Encode.j3 k x1 x7 x8 x312000 x312001 x312002) else (some (x7, 0))
def signalbenchref21_Encode.j3 : Nat → List (S46) → List (S46) → Int → ByteArray → Int → Bool → Option ((List (S46)) × Int)
 | 0, _, _, _, _, _, _ => none
 | k + 1, x1, x7, x8, x312000, x312001, x312002 => if 0 ≤ x8 then (if x8 < (x1.length : Int) then (if ((rd_T46 x1 x8).f0) < 0 then (signalbenchref21_Encode.j4 k x1 x7 x8 true x312000 x312001 x312002 ((rd_T46 x1 x8).f0) ((rd_T46 x1 x8).f1) ((rd_T46 x1 x8).f2) ((rd_T46 x1 x8).f3) ((rd_T46 x1 x8).f4)) else (signalbenchref21_Encode.j4 k x1 x7 x8 (decide (((rd_T46 x1 x8).f0) > 1048576)) x312000 x312001 x312002 ((rd_T46 x1 x8).f0) ((rd_T46 x1 x8).f1) ((rd_T46 x1 x8).f2) ((rd_T46 x1 x8).f3) ((rd_T46 x1 x8).f4))) else (none)) else (none)
def signalbenchref21_Encode.j4 : Nat → List (S46) → List (S46) → Int → Bool → ByteArray → Int → Bool → Int → Int → Int → ByteArray → Int → Option ((List (S46)) × Int)
 | 0, _, _, _, _, _, _, _, _, _, _, _, _ => none
 | k + 1, x1, x7, x8, x36, x312000, x312001, x312002, x318000, x318001, x318002, x318003, x318004 => if x36 = true then (some (([] : List (S46)), 1)) else (if (x318003.size : Int) > 4096 then (some (([] : List (S46)), 6)) else (if (x318003.size : Int) = x312001 then (if x318001 = 0 then (if x318002 = 0 then (if x318004 = 0 then ((signalbenchref03_FromBytes.f k x318003 x312002).bind fun t318 => (if x312000.size + t318.size ≤ 9223372036854775807 then (if x7.length < 2932031007402 then (signalbenchref21_Encode.l0 k x1 (x7 ++ [(⟨x318000, 0, 0, x312000 ++ t318, 0⟩ : S46)]) (wrap64 (x8 + 1)) x312000 x312001 x312002) else (none)) else (none))) else (some (([] : List (S46)), 1))) else (some (([] : List (S46)), 1))) else (some (([] : List (S46)), 1))) else (some (([] : List (S46)), 2))))
end
def signalbenchref21_Encode.f (k : Nat) (a0_0 : ByteArray) (a0_1 : Int) (a0_2 : Bool) (l1 : List (S46)) : Option ((List (S46)) × Int) := (signalbenchref21_Check.f k a0_0 a0_1 a0_2).bind fun t312 => (if t312 = 0 then (signalbenchref21_Encode.j0 k l1 a0_0 a0_1 a0_2) else (some (([] : List (S46)), t312)))
theorem signalbenchref21_Encode.mono_l : ∀ k, (∀ y0 y1 y2 y3, LeO (signalbenchref21_Encode.j0 k y0 y1 y2 y3) (signalbenchref21_Encode.j0 (k + 1) y0 y1 y2 y3)) ∧ (∀ y0 y1 y2 y3, LeO (signalbenchref21_Encode.j1 k y0 y1 y2 y3) (signalbenchref21_Encode.j1 (k + 1) y0 y1 y2 y3)) ∧ (∀ y0 y1 y2 y3 y4 y5, LeO (signalbenchref21_Encode.l0 k y0 y1 y2 y3 y4 y5) (signalbenchref21_Encode.l0 (k + 1) y0 y1 y2 y3 y4 y5)) ∧ (∀ y0 y1 y2 y3 y4 y5, LeO (signalbenchref21_Encode.j3 k y0 y1 y2 y3 y4 y5) (signalbenchref21_Encode.j3 (k + 1) y0 y1 y2 y3 y4 y5)) ∧ (∀ y0 y1 y2 y3 y4 y5 y6 y7 y8 y9 y10 y11, LeO (signalbenchref21_Encode.j4 k y0 y1 y2 y3 y4 y5 y6 y7 y8 y9 y10 y11) (signalbenchref21_Encode.j4 (k + 1) y0 y1 y2 y3 y4 y5 y6 y7 y8 y9 y10 y11))
 | 0 => ⟨fun _ _ _ _ r h => by simp [signalbenchref21_Encode.j0] at h, fun _ _ _ _ r h => by simp [signalbenchref21_Encode.j1] at h, fun _ _ _ _ _ _ r h => by simp [signalbenchref21_Encode.l0] at h, fun _ _ _ _ _ _ r h => by simp [signalbenchref21_Encode.j3] at h, fun _ _ _ _ _ _ _ _ _ _ _ _ r h => by simp [signalbenchref21_Encode.j4] at h⟩
 | k + 1 => by
  obtain ⟨ih0, ih1, ih2, ih3, ih4⟩ := signalbenchref21_Encode.mono_l k
  refine ⟨?_, ?_, ?_, ?_, ?_⟩
  ·intro y0 y1 y2 y3
   unfold signalbenchref21_Encode.j0
   repeat' first
   | (with_reducible exact ih0 _ _ _ _)
   | (with_reducible exact ih1 _ _ _ _)
   | (with_reducible exact ih2 _ _ _ _ _ _)
   | (with_reducible exact ih3 _ _ _ _ _ _)
   | (with_reducible exact ih4 _ _ _ _ _ _ _ _ _ _ _ _)
   | (with_reducible exact signalbenchref03_FromBytes.mono _ _ _)
   | (with_reducible exact signalbenchref21_Check.mono _ _ _ _)
   | (with_reducible exact LeO.refl _)
   | (with_reducible exact LeO.none _)
   | (with_reducible refine LeO.ite ?_ ?_)
   | (with_reducible refine LeO.bind ?_ (fun _ => ?_))
   | exact ih0 _ _ _ _
   | exact ih1 _ _ _ _
   | exact ih2 _ _ _ _ _ _
   | exact ih3 _ _ _ _ _ _
   | exact ih4 _ _ _ _ _ _ _ _ _ _ _ _
   | exact signalbenchref03_FromBytes.mono _ _ _
   | exact signalbenchref21_Check.mono _ _ _ _
   | exact LeO.none _
   | refine LeO.ite ?_ ?_
   | refine LeO.bind ?_ (fun _ => ?_)
  ·intro y0 y1 y2 y3
   unfold signalbenchref21_Encode.j1
   repeat' first
   | (with_reducible exact ih0 _ _ _ _)
   | (with_reducible exact ih1 _ _ _ _)
   | (with_reducible exact ih2 _ _ _ _ _ _)
   | (with_reducible exact ih3 _ _ _ _ _ _)
   | (with_reducible exact ih4 _ _ _ _ _ _ _ _ _ _ _ _)
   | (with_reducible exact signalbenchref03_FromBytes.mono _ _ _)
   | (with_reducible exact signalbenchref21_Check.mono _ _ _ _)
   | (with_reducible exact LeO.refl _)
   | (with_reducible exact LeO.none _)
   | (with_reducible refine LeO.ite ?_ ?_)
   | (with_reducible refine LeO.bind ?_ (fun _ => ?_))
   | exact ih0 _ _ _ _
   | exact ih1 _ _ _ _
   | exact ih2 _ _ _ _ _ _
   | exact ih3 _ _ _ _ _ _
   | exact ih4 _ _ _ _ _ _ _ _ _ _ _ _
   | exact signalbenchref03_FromBytes.mono _ _ _
   | exact signalbenchref21_Check.mono _ _ _ _
   | exact LeO.none _
   | refine LeO.ite ?_ ?_
   | refine LeO.bind ?_ (fun _ => ?_)
  ·intro y0 y1 y2 y3 y4 y5
   unfold signalbenchref21_Encode.l0
   repeat' first
   | (with_reducible exact ih0 _ _ _ _)
   | (with_reducible exact ih1 _ _ _ _)
   | (with_reducible exact ih2 _ _ _ _ _ _)
   | (with_reducible exact ih3 _ _ _ _ _ _)
   | (with_reducible exact ih4 _ _ _ _ _ _ _ _ _ _ _ _)
   | (with_reducible exact signalbenchref03_FromBytes.mono _ _ _)
   | (with_reducible exact signalbenchref21_Check.mono _ _ _ _)
   | (with_reducible exact LeO.refl _)
   | (with_reducible exact LeO.none _)
   | (with_reducible refine LeO.ite ?_ ?_)
   | (with_reducible refine LeO.bind ?_ (fun _ => ?_))
   | exact ih0 _ _ _ _
   | exact ih1 _ _ _ _
   | exact ih2 _ _ _ _ _ _
   | exact ih3 _ _ _ _ _ _
   | exact ih4 _ _ _ _ _ _ _ _ _ _ _ _
   | exact signalbenchref03_FromBytes.mono _ _ _
   | exact signalbenchref21_Check.mono _ _ _ _
   | exact LeO.none _
   | refine LeO.ite ?_ ?_
   | refine LeO.bind ?_ (fun _ => ?_)
  ·intro y0 y1 y2 y3 y4 y5
   unfold signalbenchref21_Encode.j3
   repeat' first
   | (with_reducible exact ih0 _ _ _ _)
   | (with_reducible exact ih1 _ _ _ _)
   | (with_reducible exact ih2 _ _ _ _ _ _)
   | (with_reducible exact ih3 _ _ _ _ _ _)
   | (with_reducible exact ih4 _ _ _ _ _ _ _ _ _ _ _ _)
   | (with_reducible exact signalbenchref03_FromBytes.mono _ _ _)
   | (with_reducible exact signalbenchref21_Check.mono _ _ _ _)
   | (with_reducible exact LeO.refl _)
   | (with_reducible exact LeO.none _)
   | (with_reducible refine LeO.ite ?_ ?_)
   | (with_reducible refine LeO.bind ?_ (fun _ => ?_))
   | exact ih0 _ _ _ _
   | exact ih1 _ _ _ _
   | exact ih2 _ _ _ _ _ _
   | exact ih3 _ _ _ _ _ _
   | exact ih4 _ _ _ _ _ _ _ _ _ _ _ _
   | exact signalbenchref03_FromBytes.mono _ _ _
   | exact signalbenchref21_Check.mono _ _ _ _
   | exact LeO.none _
   | refine LeO.ite ?_ ?_
   | refine LeO.bind ?_ (fun _ => ?_)
  ·intro y0 y1 y2 y3 y4 y5 y6 y7 y8 y9 y10 y11
   unfold signalbenchref21_Encode.j4
   repeat' first
   | (with_reducible exact ih0 _ _ _ _)
   | (with_reducible exact ih1 _ _ _ _)
   | (with_reducible exact ih2 _ _ _ _ _ _)
   | (with_reducible exact ih3 _ _ _ _ _ _)
   | (with_reducible exact ih4 _ _ _ _ _ _ _ _ _ _ _ _)
   | (with_reducible exact signalbenchref03_FromBytes.mono _ _ _)
   | (with_reducible exact signalbenchref21_Check.mono _ _ _ _)
   | (with_reducible exact LeO.refl _)
   | (with_reducible exact LeO.none _)
   | (with_reducible refine LeO.ite ?_ ?_)
   | (with_reducible refine LeO.bind ?_ (fun _ => ?_))
   | exact ih0 _ _ _ _
   | exact ih1 _ _ _ _
   | exact ih2 _ _ _ _ _ _
   | exact ih3 _ _ _ _ _ _
   | exact ih4 _ _ _ _ _ _ _ _ _ _ _ _
   | exact signalbenchref03_FromBytes.mono _ _ _
   | exact signalbenchref21_Check.mono _ _ _ _
   | exact LeO.none _
   | refine LeO.ite ?_ ?_
   | refine LeO.bind ?_ (fun _ => ?_)
theorem signalbenchref21_Encode.mono : ∀ a0 a1 a2 a3 k, LeO (signalbenchref21_Encode.f k a0 a1 a2 a3) (signalbenchref21_Encode.f (k + 1) a0 a1 a2 a3) := by
 intro a0 a1 a2 a3 k
 obtain ⟨ih0, ih1, ih2, ih3, ih4⟩ := signalbenchref21_Encode.mono_l k
 unfold signalbenchref21_Encode.f
 repeat' first
   | (with_reducible exact ih0 _ _ _ _)
   | (with_reducible exact ih1 _ _ _ _)
   | (with_reducible exact ih2 _ _ _ _ _ _)
   | (with_reducible exact ih3 _ _ _ _ _ _)
   | (with_reducible exact ih4 _ _ _ _ _ _ _ _ _ _ _ _)
   | (with_reducible exact signalbenchref03_FromBytes.mono _ _ _)
   | (with_reducible exact signalbenchref21_Check.mono _ _ _ _)
   | (with_reducible exact LeO.refl _)
   | (with_reducible exact LeO.none _)
   | (with_reducible refine LeO.ite ?_ ?_)
   | (with_reducible refine LeO.bind ?_ (fun _ => ?_))
   | exact ih0 _ _ _ _
   | exact ih1 _ _ _ _
   | exact ih2 _ _ _ _ _ _
   | exact ih3 _ _ _ _ _ _
   | exact ih4 _ _ _ _ _ _ _ _ _ _ _ _
   | exact signalbenchref03_FromBytes.mono _ _ _
   | exact signalbenchref21_Check.mono _ _ _ _
   | exact LeO.none _
   | refine LeO.ite ?_ ?_
   | refine LeO.bind ?_ (fun _ => ?_)
def signalbenchref21_Encode.T19 : Bool × List (List Nat × List Nat) := (true, [([], []), ([], []), ([1], [1]), ([], []), ([3], [3]), ([], []), ([5], [5]), ([], []), ([7], [7]), ([6, 8], [6, 8]), ([4, 9], [4, 9]), ([2, 10], [2, 10]), ([11], [11]), ([0, 12, 9], [0, 12]), ([13, 13, 0, 1, 2, 3, 4, 5, 6, 7, 8, 9, 10, 11, 12, 13], [0, 13])])
def signalbenchref21_Encode.B19 : List Nat := [0, 0, 2, 0, 8, 0, 32, 0, 128, 480, 1016, 2046, 4094, 8191, 16383]
theorem signalbenchref21_Encode.tab19 : rtab .any (opsOf Try.f20 19) = signalbenchref21_Encode.T19 := by kernel_rfl
theorem signalbenchref21_Encode.bits19 : waitsOk signalbenchref21_Encode.T19.2 signalbenchref21_Encode.B19 = true := by kernel_rfl
set_option maxHeartbeats 8000000 in
set_option maxRecDepth 100000 in
theorem signalbenchref21_Encode.calls (k : Nat) (a0_0 : ByteArray) (a0_1 : Int) (a0_2 : Bool) (A1 : Option Addr) (c1 : Nat) (l1 : List (S46)) (r1 : List (S46)) (r2 : Int) (w : World) (hr1 : Kd.C k46 w A1 l1.length l1) (hc1 : l1.length ≤ c1) (h : signalbenchref21_Encode.f k a0_0 a0_1 a0_2 l1 = some (r1, r2)) :
  Calls Try.prog 20 #[.agg #[.string a0_0, .int .i64 a0_1, .bool a0_2], .slice A1 l1.length c1] w fun e w' => ∃ v0_ : Value, e = .returned (.tuple #[v0_, .int .i64 r2]) ∧ Kd.R k46 46 w' w.heap.size (fun _ => True) v0_ r1 ∧ Below w.heap.size w w' := by
 have hu23 := Try.underlying23
 have hu46 := Try.underlying46
 have HR1 := Aside0.mk hr1
 have HC1 := Aside0.mk hc1
 clear hr1 hc1
 have HB := Aside0.mk (Below.refl w.heap.size w)
 have H : ((signalbenchref21_Check.f k a0_0 a0_1 a0_2).bind fun t312 => (if t312 = 0 then (signalbenchref21_Encode.j0 k l1 a0_0 a0_1 a0_2) else (some (([] : List (S46)), t312)))) = some (r1, r2) := h
 clear h
 replace H := Option.bind_eq_some_iff.mp H
 obtain ⟨t312, A30, H⟩ := H
 replace H : (if t312 = 0 then (signalbenchref21_Encode.j0 k l1 a0_0 a0_1 a0_2) else (some (([] : List (S46)), t312))) = some (r1, r2) := H
 have A3 := Aside0.mk A30
 clear A30
 have HC4 := Aside0.mk H
 clear H
 go_enter Try.func20, Try.ntmps20
 go_upto_if 13 with (first | ((with_reducible refine gate_dst (N := 2) rfl ?_); refine box_event ?hg (N := 2) ?hd (cs := #[.string a0_0, .int .i64 a0_1, .bool a0_2]) (t := 23) ?hr ?_; (case hd => rfl); (case hg => rfl); (case hr => first | (go_simp; done) | (go_simp; rfl)); intro gb311 hg w5 hbox hb; have n0_ := Aside0.mk (below_step (hbw HB.out) hb); have n1_ := Aside0.mk (hbox); have n2_ := Aside0.mk ((by rw [hg]; exact (below_size (hbw HB.out)) : w.heap.size ≤ gb311)); have n3_ := Aside0.mk ((by rw [hg]; exact (below_size (hbw HB.out)) : w.heap.size ≤ gb311)); clear HB; have HB := n0_; have BK311 := n1_; have GW311 := n2_; have GE311 := n3_; clear n0_ n1_ n2_ n3_; clear hb hbox hg; have hcz6_0 : w5.cell? ⟨gb311, 0, none⟩ = some (.string a0_0) := (blk_cell BK311.out 0).trans rfl; have hcz6_1 : w5.cell? ⟨gb311, 1, none⟩ = some (.int .i64 a0_1) := (blk_cell BK311.out 1).trans rfl; have hcz6_2 : w5.cell? ⟨gb311, 2, none⟩ = some (.bool a0_2) := (blk_cell BK311.out 2).trans rfl; have hfz6_0 := blk_frozen BK311.out 0; have hfz6_1 := blk_frozen BK311.out 1; have hfz6_2 := blk_frozen BK311.out 2) | ((with_reducible refine gate_callee (f := 22) rfl ?_); refine goesL_ (some 11) rfl rfl Try.func22 (by kernel_rfl) rfl #[.agg #[.string a0_0, .int .i64 a0_1, .bool a0_2]] rfl (by (try simp only [List.map_toArray, List.map_cons, List.map_nil]); first | done | rfl | (simp only [List.length_drop, List.length_take]; rfl)) ?_; (with_reducible refine (signalbenchref21_Check.calls k a0_0 a0_1 a0_2 t312 _ A3.out).mono ?_); rintro e w7 ⟨rfl, hb⟩; refine ⟨_, rfl, ?_⟩; have n0_ := Aside0.mk (blkb BK311.out hb); have n1_ := Aside0.mk (below_step (hbw HB.out) hb); clear BK311; clear HB; have BK311 := n0_; have HB := n1_; clear n0_ n1_; (try clear hb); (try clear hb2); (try clear hk); (try clear hi)))
 (try simp only [Act.put, List.setIfInBounds_toArray, List.set_cons_zero, List.set_cons_succ])
 go_cut [] (fun wc => ∃ (kq : Nat), Aside0 (signalbenchref21_Encode.j0 kq l1 a0_0 a0_1 a0_2 = some (r1, r2)) ∧ Aside0 (kq ≤ k) ∧ Aside0 (wc.heap[gb311]? = some (.cells #[.string a0_0, .int .i64 a0_1, .bool a0_2] 23 (0, 0))) ∧ Aside0 (Below w.heap.size w wc))
 case first =>
  have H := HC4.out
  clear HC4
  by_cases c8 : t312 = 0
  ·rw [if_pos c8] at H
   have c8b0 : (t312 == 0) = true := beq_iff_eq.mpr c8
   have c8b1 : (t312 != 0) = false := bne_eq_false_iff_eq.mpr c8
   clear c8
   (first | rw [c8b0] | (simp only [i64_w, i32_w]; rw [c8b0]) | skip)
   have H' := Aside0.mk H
   clear H
   go_wp2
   go_meet
   case rel => exact ⟨_, H', ⟨by first | omega | exact Nat.le_refl _⟩, ⟨by (with_reducible repeat (first | refine blk_drewN ?_ _ | refine blk_drew ?_ | refine blk_alloc ?_ _)); exact BK311.out⟩, ⟨by repeat (first | (with_reducible first | exact HB.out | apply below_alloc | apply pw_below_drewN | apply below_drew1 | refine below_set ?_ GE311.out) | exact HB.out)⟩⟩
  ·rw [if_neg c8] at H
   have c8b0 : (t312 == 0) = false := beq_eq_false_iff_ne.mpr c8
   have c8b1 : (t312 != 0) = true := bne_iff_ne.mpr c8
   (first | rw [c8b0] | (simp only [i64_w, i32_w]; rw [c8b0]) | skip)
   simp only [Option.some.injEq, Prod.mk.injEq] at H
   obtain ⟨rfl, rfl⟩ := H
   go_wp2
   go_ret2
   exact ⟨_, by first | rfl | (simp [errW_none, errW_some] <;> rfl) | (simp [*, errW_none, errW_some] <;> rfl), by first | exact Kd.R_nil _ _ _ _ _ | exact Kd.N_nil _ _ _ _ _ | exact Kd.V_nil _ _ _ _ _ | exact Kd.Q_nil _ _ _ _ _ | exact Kd.S_nil _ _ _ _ _, by repeat (first | (with_reducible first | exact HB.out | apply below_alloc | apply pw_below_drewN | apply below_drew1 | refine below_set ?_ GE311.out) | exact HB.out)⟩
 case rest =>
  clear HC4
  try clear c1
  try clear c2
  try clear p2
  try clear c8
  try clear c8b0
  try clear c8b1
  try clear hcz6_0
  try clear hcz6_1
  try clear hcz6_2
  try clear hfz6_0
  try clear hfz6_1
  try clear hfz6_2
  obtain ⟨kq, HA, HJ3, BK311, HB⟩ := hcut
  cases kq with
  | zero => exact absurd HA.out (by simp [signalbenchref21_Encode.j0])
  | succ kj3 =>
   have H := HA.out
   clear HA
   simp only [signalbenchref21_Encode.j0] at H
   have HC9 := Aside0.mk H
   clear H
   go_upto_if 17 with (fail)
   go_cut [] (fun wc => ∃ (kq : Nat), Aside0 (signalbenchref21_Encode.j1 kq l1 a0_0 a0_1 a0_2 = some (r1, r2)) ∧ Aside0 (kq ≤ kj3) ∧ Aside0 (wc.heap[gb311]? = some (.cells #[.string a0_0, .int .i64 a0_1, .bool a0_2] 23 (0, 0))) ∧ Aside0 (Below w.heap.size w wc))
   case first =>
    have H := HC9.out
    clear HC9
    by_cases c10 : (l1.length : Int) > 1024
    ·rw [if_pos c10] at H
     have c10b0 : decide (1024 < (l1.length : Int)) = true := decide_eq_true c10
     have c10b1 : decide (1024 < l1.length) = true := decide_eq_true (by omega)
     clear c10
     (first | rw [c10b0] | (simp only [i64_w, i32_w]; rw [c10b0]) | skip)
     simp only [Option.some.injEq, Prod.mk.injEq] at H
     obtain ⟨rfl, rfl⟩ := H
     go_wp2
     go_ret2
     exact ⟨_, by first | rfl | (simp [errW_none, errW_some] <;> rfl) | (simp [*, errW_none, errW_some] <;> rfl), by first | exact Kd.R_nil _ _ _ _ _ | exact Kd.N_nil _ _ _ _ _ | exact Kd.V_nil _ _ _ _ _ | exact Kd.Q_nil _ _ _ _ _ | exact Kd.S_nil _ _ _ _ _, by repeat (first | (with_reducible first | exact HB.out | apply below_alloc | apply pw_below_drewN | apply below_drew1 | refine below_set ?_ GE311.out) | exact HB.out)⟩
    ·rw [if_neg c10] at H
     have c10b0 : decide (1024 < (l1.length : Int)) = false := decide_eq_false c10
     have c10b1 : decide (1024 < l1.length) = false := decide_eq_false (by omega)
     clear c10
     (first | rw [c10b0] | (simp only [i64_w, i32_w]; rw [c10b0]) | skip)
     have H' := Aside0.mk H
     clear H
     go_wp2
     go_meet
     case rel => exact ⟨_, H', ⟨by have := HJ3.out; first | omega | exact Nat.le_refl _⟩, ⟨by (with_reducible repeat (first | refine blk_drewN ?_ _ | refine blk_drew ?_ | refine blk_alloc ?_ _)); exact BK311.out⟩, ⟨by repeat (first | (with_reducible first | exact HB.out | apply below_alloc | apply pw_below_drewN | apply below_drew1 | refine below_set ?_ GE311.out) | exact HB.out)⟩⟩
   case rest =>
    clear HC9
    try clear c1
    try clear c2
    try clear p2
    try clear c8
    try clear c8b0
    try clear c8b1
    try clear c10
    try clear c10b0
    try clear c10b1
    try clear hcz6_0
    try clear hcz6_1
    try clear hcz6_2
    try clear hfz6_0
    try clear hfz6_1
    try clear hfz6_2
    try clear p2
    obtain ⟨kq, HA, HJ8, BK311, HB⟩ := hcut
    cases kq with
    | zero => exact absurd HA.out (by simp [signalbenchref21_Encode.j1])
    | succ kj8 =>
     have H := HA.out
     clear HA
     simp only [signalbenchref21_Encode.j1] at H
     obtain ⟨y313, hy313⟩ : ∃ y_ : List (S46), y_ = (([] : List (S46))) := ⟨_, rfl⟩
     replace H : (signalbenchref21_Encode.l0 kj8 l1 y313 0 a0_0 a0_1 a0_2) = some (r1, r2) := by first | (rw [hy313]; with_reducible exact H) | (have H2_ := (Option.bind_some _ _).symm.trans H; rw [hy313]; with_reducible exact H2_) | (have H2_ := (Option.bind_some _ _).symm.trans H; with_reducible exact H2_) | with_reducible exact H | (rw [hy313]; exact H) | exact H
     have Ny313 := Aside0.mk hy313
     clear hy313
     have H' := Aside0.mk H
     clear H
     go_wp2_with (first | ((with_reducible refine gate_dst (N := 18) rfl ?_); refine Kd.R_lit k46 _ 46 ?hg (N := 18) ?hd (xs := ([] : List (S46))) (inner := []) (ok := fun _ => True) (okp := fun _ => True) ?hr ?hp (fun _ hk => hk) trivial (Below.refl _ _) (Nat.le_refl _) (by simp) ?_; (case hd => rfl); (case hg => rfl); (case hr => first | (go_simp; done) | (go_simp; rfl)); (case hp => exact (Reps.none _ _)); intro v314 w11 ho12 hb hg_ hnew_; clear hg_ hnew_; (first | rw [← Ny313.out] at ho12 | (simp only [Int.reduceToNat] at ho12; rw [← Ny313.out] at ho12)); have n0_ := Aside0.mk (Kd.R_lower ho12 (below_size (hbw HB.out))); have n1_ := Aside0.mk (blkb BK311.out hb); have n2_ := Aside0.mk (below_step (hbw HB.out) hb); clear BK311; clear HB; have HO315 := n0_; have BK311 := n1_; have HB := n2_; clear n0_ n1_ n2_; clear hb ho12))
     go_loopg [7, 8] kj8 (fun kq v7 v8 w' => ∃ (x7_3 : List (S46)) (x8_3 : Int), v8 = .int .i64 x8_3 ∧ Aside0 (signalbenchref21_Encode.l0 kq l1 x7_3 x8_3 a0_0 a0_1 a0_2 = some (r1, r2)) ∧ Aside0 (kq ≤ kj8) ∧ Aside0 (Kd.R k46 46 w' w.heap.size (fun _ => True) v7 x7_3) ∧ Aside0 (w'.heap[gb311]? = some (.cells #[.string a0_0, .int .i64 a0_1, .bool a0_2] 23 (0, 0))) ∧ Aside0 (Below w.heap.size w w'))
     case atStart => exact ⟨(y313), (0), (by first | rfl | (simp; done) | (simp [*]; done)), H', ⟨Nat.le_refl _⟩, ⟨by (with_reducible repeat (first | apply Kd.R_alloc | apply Kd.R_drewN | apply Kd.R_drew)); exact HO315.out⟩, ⟨by (with_reducible repeat (first | refine blk_drewN ?_ _ | refine blk_drew ?_ | refine blk_alloc ?_ _)); exact BK311.out⟩, ⟨by repeat (first | (with_reducible first | exact HB.out | apply below_alloc | apply pw_below_drewN | apply below_drew1 | refine below_set ?_ GE311.out) | exact HB.out)⟩⟩
     case round =>
      clear H'
      try clear c1
      try clear c2
      try clear p2
      try clear c8
      try clear c8b0
      try clear c8b1
      try clear c10
      try clear c10b0
      try clear c10b1
      try clear hcz6_0
      try clear hcz6_1
      try clear hcz6_2
      try clear hfz6_0
      try clear hfz6_1
      try clear hfz6_2
      try clear p2
      obtain ⟨x7_3, x8_3, rfl, HA, HK3, HO_7, BK311, HB⟩ := hrel
      cases gk with
      | zero => exact absurd HA.out (by simp [signalbenchref21_Encode.l0])
      | succ k3 =>
       have H := HA.out
       clear HA
       simp only [signalbenchref21_Encode.l0] at H
       have HC13 := Aside0.mk H
       clear H
       go_upto_if 22 with (fail)
       go_cut [] (fun wc => ∃ (kq : Nat), Aside0 (signalbenchref21_Encode.j3 kq l1 x7_3 x8_3 a0_0 a0_1 a0_2 = some (r1, r2)) ∧ Aside0 (kq ≤ k3) ∧ Aside0 (Kd.R k46 46 wc w.heap.size (fun _ => True) u7 x7_3) ∧ Aside0 (wc.heap[gb311]? = some (.cells #[.string a0_0, .int .i64 a0_1, .bool a0_2] 23 (0, 0))) ∧ Aside0 (Below w.heap.size w wc))
       case first =>
        have H := HC13.out
        clear HC13
        by_cases c14 : x8_3 < (l1.length : Int)
        ·rw [if_pos c14] at H
         have c14b0 : decide (x8_3 < (l1.length : Int)) = true := decide_eq_true c14
         clear c14
         (first | rw [c14b0] | (simp only [i64_w, i32_w]; rw [c14b0]) | skip)
         have H' := Aside0.mk H
         clear H
         go_wp2
         go_meet
         case rel => exact ⟨_, H', ⟨by have := HJ3.out; have := HJ8.out; have := HK3.out; first | omega | exact Nat.le_refl _⟩, ⟨by (with_reducible repeat (first | apply Kd.R_alloc | apply Kd.R_drewN | apply Kd.R_drew)); exact HO_7.out⟩, ⟨by (with_reducible repeat (first | refine blk_drewN ?_ _ | refine blk_drew ?_ | refine blk_alloc ?_ _)); exact BK311.out⟩, ⟨by repeat (first | (with_reducible first | exact HB.out | apply below_alloc | apply pw_below_drewN | apply below_drew1 | refine below_set ?_ GE311.out) | exact HB.out)⟩⟩
        ·rw [if_neg c14] at H
         have c14b0 : decide (x8_3 < (l1.length : Int)) = false := decide_eq_false c14
         clear c14
         (first | rw [c14b0] | (simp only [i64_w, i32_w]; rw [c14b0]) | skip)
         simp only [Option.some.injEq, Prod.mk.injEq] at H
         obtain ⟨rfl, rfl⟩ := H
         go_wp2
         go_ret2
         exact ⟨_, by first | rfl | (simp [errW_none, errW_some] <;> rfl) | (simp [*, errW_none, errW_some] <;> rfl), by (with_reducible repeat (first | apply Kd.R_alloc | apply Kd.R_drewN | apply Kd.R_drew)); exact HO_7.out, by repeat (first | (with_reducible first | exact HB.out | apply below_alloc | apply pw_below_drewN | apply below_drew1 | refine below_set ?_ GE311.out) | exact HB.out)⟩
       case rest =>
        clear HC13
        try clear c1
        try clear c2
        try clear p2
        try clear c8
        try clear c8b0
        try clear c8b1
        try clear c10
        try clear c10b0
        try clear c10b1
        try clear c14
        try clear c14b0
        try clear hcz6_0
        try clear hcz6_1
        try clear hcz6_2
        try clear hfz6_0
        try clear hfz6_1
        try clear hfz6_2
        try clear p2
        obtain ⟨kq, HA, HJ12, HO_7, BK311, HB⟩ := hcut
        cases kq with
        | zero => exact absurd HA.out (by simp [signalbenchref21_Encode.j3])
        | succ kj12 =>
         have H := HA.out
         clear HA
         simp only [signalbenchref21_Encode.j3] at H
         by_cases c15 : 0 ≤ x8_3
         ·rw [if_pos c15] at H
          have c15b0 : decide (0 ≤ x8_3) = true := decide_eq_true c15
          clear c15
          by_cases c16 : x8_3 < (l1.length : Int)
          ·rw [if_pos c16] at H
           have c16b0 : decide (x8_3 < (l1.length : Int)) = true := decide_eq_true c16
           clear c16
           have HC17 := Aside0.mk H
           clear H
           have p316 : 0 ≤ (x8_3 : Int) := of_decide_eq_true (by first | (with_reducible assumption) | assumption)
           have q316 : x8_3 < (l1.length : Int) := of_decide_eq_true (by first | (with_reducible assumption) | assumption)
           obtain ⟨ad316, e316, hx316_0, hx316_1, hx316_2, hx316_3, hx316_4⟩ := at_T46 HR1.out x8_3 p316 q316
           cases e316
           replace hx316_0 := (HB.out.cell (World.block_lt_of_cell? w _ hx316_0)).trans hx316_0
           replace hx316_1 := (HB.out.cell (World.block_lt_of_cell? w _ hx316_1)).trans hx316_1
           replace hx316_2 := (HB.out.cell (World.block_lt_of_cell? w _ hx316_2)).trans hx316_2
           replace hx316_3 := (HB.out.cell (World.block_lt_of_cell? w _ hx316_3)).trans hx316_3
           replace hx316_4 := (HB.out.cell (World.block_lt_of_cell? w _ hx316_4)).trans hx316_4
           replace p316 := eq_true p316
           replace q316 := eq_true q316
           go_upto_region 11 with (first | ((with_reducible refine gate_dst (N := 9) rfl ?_); refine box_event ?hg (N := 9) ?hd (cs := #[.int .i64 0, .int .i64 0, .int .i64 0, .string (⟨#[]⟩ : ByteArray), .int .i64 0]) (t := 46) ?hr ?_; (case hd => rfl); (case hg => rfl); (case hr => first | (go_simp; done) | (go_simp; rfl)); intro gb317 hg w18 hbox hb; have n0_ := Aside0.mk (Kd.R_below (Kd.R_elderB (rkw HO_7.out) gb317 (Nat.le_of_eq hg.symm)) hb); have n1_ := Aside0.mk (blkb BK311.out hb); have n2_ := Aside0.mk (below_step (hbw HB.out) hb); have n3_ := Aside0.mk (hbox); have n4_ := Aside0.mk ((by rw [hg]; exact (below_size (hbw HB.out)) : w.heap.size ≤ gb317)); have n5_ := Aside0.mk ((by rw [hg]; exact (below_size (hbw HB.out)) : w.heap.size ≤ gb317)); have n6_ := Aside0.mk ((by rw [hg]; exact Nat.ne_of_lt (blkl BK311.out) : gb311 ≠ gb317)); have n7_ := Aside0.mk ((by rw [hg]; exact Nat.ne_of_gt (blkl BK311.out) : gb317 ≠ gb311)); clear HO_7; clear BK311; clear HB; have HO_7 := n0_; have BK311 := n1_; have HB := n2_; have BK317 := n3_; have GW317 := n4_; have GE317 := n5_; have NB311_317 := n6_; have NB317_311 := n7_; clear n0_ n1_ n2_ n3_ n4_ n5_ n6_ n7_; clear hb hbox hg; have hnb19 := NB317_311.out; have hnc19 := NB311_317.out; have hcz20_0 : w18.cell? ⟨gb317, 0, none⟩ = some (.int .i64 0) := (blk_cell BK317.out 0).trans rfl; have hcz20_1 : w18.cell? ⟨gb317, 1, none⟩ = some (.int .i64 0) := (blk_cell BK317.out 1).trans rfl; have hcz20_2 : w18.cell? ⟨gb317, 2, none⟩ = some (.int .i64 0) := (blk_cell BK317.out 2).trans rfl; have hcz20_3 : w18.cell? ⟨gb317, 3, none⟩ = some (.string (⟨#[]⟩ : ByteArray)) := (blk_cell BK317.out 3).trans rfl; have hcz20_4 : w18.cell? ⟨gb317, 4, none⟩ = some (.int .i64 0) := (blk_cell BK317.out 4).trans rfl; have hfz20_0 := blk_frozen BK317.out 0; have hfz20_1 := blk_frozen BK317.out 1; have hfz20_2 := blk_frozen BK317.out 2; have hfz20_3 := blk_frozen BK317.out 3; have hfz20_4 := blk_frozen BK317.out 4))
           (try simp only [Act.put, List.setIfInBounds_toArray, List.set_cons_zero, List.set_cons_succ])
           go_cut [36] (fun v36 wc => ∃ (kq : Nat) (x36_16 : Bool), v36 = .bool x36_16 ∧ Aside0 (signalbenchref21_Encode.j4 kq l1 x7_3 x8_3 x36_16 a0_0 a0_1 a0_2 ((rd_T46 l1 x8_3).f0) ((rd_T46 l1 x8_3).f1) ((rd_T46 l1 x8_3).f2) ((rd_T46 l1 x8_3).f3) ((rd_T46 l1 x8_3).f4) = some (r1, r2)) ∧ Aside0 (kq ≤ kj12) ∧ Aside0 (Kd.R k46 46 wc w.heap.size (fun k_ => k_ ≠ gb317) u7 x7_3) ∧ Aside0 (wc.heap[gb311]? = some (.cells #[.string a0_0, .int .i64 a0_1, .bool a0_2] 23 (0, 0))) ∧ Aside0 (wc.heap[gb317]? = some (.cells #[.int .i64 ((rd_T46 l1 x8_3).f0), .int .i64 ((rd_T46 l1 x8_3).f1), .int .i64 ((rd_T46 l1 x8_3).f2), .string ((rd_T46 l1 x8_3).f3), .int .i64 ((rd_T46 l1 x8_3).f4)] 46 (0, 0))) ∧ Aside0 (Below w.heap.size w wc))
           case first =>
            have H := HC17.out
            clear HC17
            by_cases c21 : ((rd_T46 l1 x8_3).f0) < 0
            ·rw [if_pos c21] at H
             have c21b0 : decide (((rd_T46 l1 x8_3).f0) < 0) = true := decide_eq_true c21
             clear c21
             (first | rw [c21b0] | (simp only [i64_w, i32_w]; rw [c21b0]) | skip)
             have H' := Aside0.mk H
             clear H
             have hnb22 := NB317_311.out
             have hnc22 := NB311_317.out
             have hcz23_0 : w18.cell? ⟨gb317, 0, none⟩ = some (.int .i64 0) := (blk_cell BK317.out 0).trans rfl
             have hcz23_1 : w18.cell? ⟨gb317, 1, none⟩ = some (.int .i64 0) := (blk_cell BK317.out 1).trans rfl
             have hcz23_2 : w18.cell? ⟨gb317, 2, none⟩ = some (.int .i64 0) := (blk_cell BK317.out 2).trans rfl
             have hcz23_3 : w18.cell? ⟨gb317, 3, none⟩ = some (.string (⟨#[]⟩ : ByteArray)) := (blk_cell BK317.out 3).trans rfl
             have hcz23_4 : w18.cell? ⟨gb317, 4, none⟩ = some (.int .i64 0) := (blk_cell BK317.out 4).trans rfl
             have hfz23_0 := blk_frozen BK317.out 0
             have hfz23_1 := blk_frozen BK317.out 1
             have hfz23_2 := blk_frozen BK317.out 2
             have hfz23_3 := blk_frozen BK317.out 3
             have hfz23_4 := blk_frozen BK317.out 4
             go_wp2
             go_meet
             case rel => exact ⟨_, (true), (by first | rfl | (simp; done) | (simp [*]; done)), H', ⟨by have := HJ3.out; have := HJ8.out; have := HK3.out; have := HJ12.out; first | omega | exact Nat.le_refl _⟩, ⟨by (with_reducible repeat (first | apply Kd.R_alloc | apply Kd.R_drewN | apply Kd.R_drew)); exact Kd.R_mono (Kd.R_far (p := ⟨gb317, 4, none⟩) (Kd.R_far (p := ⟨gb317, 3, none⟩) (Kd.R_far (p := ⟨gb317, 2, none⟩) (Kd.R_far (p := ⟨gb317, 1, none⟩) (Kd.R_far (p := ⟨gb317, 0, none⟩) (Kd.R_mono HO_7.out (fun k_ hk => (⟨hk, hk.2⟩ : _ ∧ k_ ≠ gb317))) (fun _ hk => hk.2) (.int .i64 ((rd_T46 l1 x8_3).f0))) (fun _ hk => hk.2) (.int .i64 ((rd_T46 l1 x8_3).f1))) (fun _ hk => hk.2) (.int .i64 ((rd_T46 l1 x8_3).f2))) (fun _ hk => hk.2) (.string ((rd_T46 l1 x8_3).f3))) (fun _ hk => hk.2) (.int .i64 ((rd_T46 l1 x8_3).f4))) (fun _ hk => hk.1.2)⟩, ⟨by (with_reducible repeat (first | refine blk_drewN ?_ _ | refine blk_drew ?_ | refine blk_alloc ?_ _)); refine blk_far ?_ NB311_317.out _; (with_reducible repeat (first | refine blk_drewN ?_ _ | refine blk_drew ?_ | refine blk_alloc ?_ _)); refine blk_far ?_ NB311_317.out _; (with_reducible repeat (first | refine blk_drewN ?_ _ | refine blk_drew ?_ | refine blk_alloc ?_ _)); refine blk_far ?_ NB311_317.out _; (with_reducible repeat (first | refine blk_drewN ?_ _ | refine blk_drew ?_ | refine blk_alloc ?_ _)); refine blk_far ?_ NB311_317.out _; (with_reducible repeat (first | refine blk_drewN ?_ _ | refine blk_drew ?_ | refine blk_alloc ?_ _)); refine blk_far ?_ NB311_317.out _; (with_reducible repeat (first | refine blk_drewN ?_ _ | refine blk_drew ?_ | refine blk_alloc ?_ _)); exact BK311.out⟩, ⟨by (with_reducible repeat (first | refine blk_drewN ?_ _ | refine blk_drew ?_ | refine blk_alloc ?_ _)); refine blk_put (cs := #[.int .i64 ((rd_T46 l1 x8_3).f0), .int .i64 ((rd_T46 l1 x8_3).f1), .int .i64 ((rd_T46 l1 x8_3).f2), .string ((rd_T46 l1 x8_3).f3), .int .i64 0]) ?_ 4 _ rfl; (with_reducible repeat (first | refine blk_drewN ?_ _ | refine blk_drew ?_ | refine blk_alloc ?_ _)); refine blk_put (cs := #[.int .i64 ((rd_T46 l1 x8_3).f0), .int .i64 ((rd_T46 l1 x8_3).f1), .int .i64 ((rd_T46 l1 x8_3).f2), .string (⟨#[]⟩ : ByteArray), .int .i64 0]) ?_ 3 _ rfl; (with_reducible repeat (first | refine blk_drewN ?_ _ | refine blk_drew ?_ | refine blk_alloc ?_ _)); refine blk_put (cs := #[.int .i64 ((rd_T46 l1 x8_3).f0), .int .i64 ((rd_T46 l1 x8_3).f1), .int .i64 0, .string (⟨#[]⟩ : ByteArray), .int .i64 0]) ?_ 2 _ rfl; (with_reducible repeat (first | refine blk_drewN ?_ _ | refine blk_drew ?_ | refine blk_alloc ?_ _)); refine blk_put (cs := #[.int .i64 ((rd_T46 l1 x8_3).f0), .int .i64 0, .int .i64 0, .string (⟨#[]⟩ : ByteArray), .int .i64 0]) ?_ 1 _ rfl; (with_reducible repeat (first | refine blk_drewN ?_ _ | refine blk_drew ?_ | refine blk_alloc ?_ _)); refine blk_put (cs := #[.int .i64 0, .int .i64 0, .int .i64 0, .string (⟨#[]⟩ : ByteArray), .int .i64 0]) ?_ 0 _ rfl; (with_reducible repeat (first | refine blk_drewN ?_ _ | refine blk_drew ?_ | refine blk_alloc ?_ _)); exact BK317.out⟩, ⟨by repeat (first | (with_reducible first | exact HB.out | apply below_alloc | apply pw_below_drewN | apply below_drew1 | refine below_set ?_ GE311.out | refine below_set ?_ GE317.out) | exact HB.out)⟩⟩
            ·rw [if_neg c21] at H
             have c21b0 : decide (((rd_T46 l1 x8_3).f0) < 0) = false := decide_eq_false c21
             clear c21
             (first | rw [c21b0] | (simp only [i64_w, i32_w]; rw [c21b0]) | skip)
             have H' := Aside0.mk H
             clear H
             have hnb24 := NB317_311.out
             have hnc24 := NB311_317.out
             have hcz25_0 : w18.cell? ⟨gb317, 0, none⟩ = some (.int .i64 0) := (blk_cell BK317.out 0).trans rfl
             have hcz25_1 : w18.cell? ⟨gb317, 1, none⟩ = some (.int .i64 0) := (blk_cell BK317.out 1).trans rfl
             have hcz25_2 : w18.cell? ⟨gb317, 2, none⟩ = some (.int .i64 0) := (blk_cell BK317.out 2).trans rfl
             have hcz25_3 : w18.cell? ⟨gb317, 3, none⟩ = some (.string (⟨#[]⟩ : ByteArray)) := (blk_cell BK317.out 3).trans rfl
             have hcz25_4 : w18.cell? ⟨gb317, 4, none⟩ = some (.int .i64 0) := (blk_cell BK317.out 4).trans rfl
             have hfz25_0 := blk_frozen BK317.out 0
             have hfz25_1 := blk_frozen BK317.out 1
             have hfz25_2 := blk_frozen BK317.out 2
             have hfz25_3 := blk_frozen BK317.out 3
             have hfz25_4 := blk_frozen BK317.out 4
             go_wp2
             go_meet
             case rel => exact ⟨_, (decide (((rd_T46 l1 x8_3).f0) > 1048576)), (by first | rfl | (simp; done) | (simp [*]; done)), H', ⟨by have := HJ3.out; have := HJ8.out; have := HK3.out; have := HJ12.out; first | omega | exact Nat.le_refl _⟩, ⟨by (with_reducible repeat (first | apply Kd.R_alloc | apply Kd.R_drewN | apply Kd.R_drew)); exact Kd.R_mono (Kd.R_far (p := ⟨gb317, 4, none⟩) (Kd.R_far (p := ⟨gb317, 3, none⟩) (Kd.R_far (p := ⟨gb317, 2, none⟩) (Kd.R_far (p := ⟨gb317, 1, none⟩) (Kd.R_far (p := ⟨gb317, 0, none⟩) (Kd.R_mono HO_7.out (fun k_ hk => (⟨hk, hk.2⟩ : _ ∧ k_ ≠ gb317))) (fun _ hk => hk.2) (.int .i64 ((rd_T46 l1 x8_3).f0))) (fun _ hk => hk.2) (.int .i64 ((rd_T46 l1 x8_3).f1))) (fun _ hk => hk.2) (.int .i64 ((rd_T46 l1 x8_3).f2))) (fun _ hk => hk.2) (.string ((rd_T46 l1 x8_3).f3))) (fun _ hk => hk.2) (.int .i64 ((rd_T46 l1 x8_3).f4))) (fun _ hk => hk.1.2)⟩, ⟨by (with_reducible repeat (first | refine blk_drewN ?_ _ | refine blk_drew ?_ | refine blk_alloc ?_ _)); refine blk_far ?_ NB311_317.out _; (with_reducible repeat (first | refine blk_drewN ?_ _ | refine blk_drew ?_ | refine blk_alloc ?_ _)); refine blk_far ?_ NB311_317.out _; (with_reducible repeat (first | refine blk_drewN ?_ _ | refine blk_drew ?_ | refine blk_alloc ?_ _)); refine blk_far ?_ NB311_317.out _; (with_reducible repeat (first | refine blk_drewN ?_ _ | refine blk_drew ?_ | refine blk_alloc ?_ _)); refine blk_far ?_ NB311_317.out _; (with_reducible repeat (first | refine blk_drewN ?_ _ | refine blk_drew ?_ | refine blk_alloc ?_ _)); refine blk_far ?_ NB311_317.out _; (with_reducible repeat (first | refine blk_drewN ?_ _ | refine blk_drew ?_ | refine blk_alloc ?_ _)); exact BK311.out⟩, ⟨by (with_reducible repeat (first | refine blk_drewN ?_ _ | refine blk_drew ?_ | refine blk_alloc ?_ _)); refine blk_put (cs := #[.int .i64 ((rd_T46 l1 x8_3).f0), .int .i64 ((rd_T46 l1 x8_3).f1), .int .i64 ((rd_T46 l1 x8_3).f2), .string ((rd_T46 l1 x8_3).f3), .int .i64 0]) ?_ 4 _ rfl; (with_reducible repeat (first | refine blk_drewN ?_ _ | refine blk_drew ?_ | refine blk_alloc ?_ _)); refine blk_put (cs := #[.int .i64 ((rd_T46 l1 x8_3).f0), .int .i64 ((rd_T46 l1 x8_3).f1), .int .i64 ((rd_T46 l1 x8_3).f2), .string (⟨#[]⟩ : ByteArray), .int .i64 0]) ?_ 3 _ rfl; (with_reducible repeat (first | refine blk_drewN ?_ _ | refine blk_drew ?_ | refine blk_alloc ?_ _)); refine blk_put (cs := #[.int .i64 ((rd_T46 l1 x8_3).f0), .int .i64 ((rd_T46 l1 x8_3).f1), .int .i64 0, .string (⟨#[]⟩ : ByteArray), .int .i64 0]) ?_ 2 _ rfl; (with_reducible repeat (first | refine blk_drewN ?_ _ | refine blk_drew ?_ | refine blk_alloc ?_ _)); refine blk_put (cs := #[.int .i64 ((rd_T46 l1 x8_3).f0), .int .i64 0, .int .i64 0, .string (⟨#[]⟩ : ByteArray), .int .i64 0]) ?_ 1 _ rfl; (with_reducible repeat (first | refine blk_drewN ?_ _ | refine blk_drew ?_ | refine blk_alloc ?_ _)); refine blk_put (cs := #[.int .i64 0, .int .i64 0, .int .i64 0, .string (⟨#[]⟩ : ByteArray), .int .i64 0]) ?_ 0 _ rfl; (with_reducible repeat (first | refine blk_drewN ?_ _ | refine blk_drew ?_ | refine blk_alloc ?_ _)); exact BK317.out⟩, ⟨by repeat (first | (with_reducible first | exact HB.out | apply below_alloc | apply pw_below_drewN | apply below_drew1 | refine below_set ?_ GE311.out | refine below_set ?_ GE317.out) | exact HB.out)⟩⟩
           case rest =>
            clear HC17
            try clear c1
            try clear c2
            try clear p2
            try clear p3
            try clear q3
            try clear hx3
            try clear c8
            try clear c8b0
            try clear c8b1
            try clear c10
            try clear c10b0
            try clear c10b1
            try clear c14
            try clear c14b0
            try clear c15
            try clear c15b0
            try clear c16
            try clear c16b0
            try clear c19
            try clear c20
            try clear c21
            try clear c21b0
            try clear c22
            try clear c24
            try clear hcz20_0
            try clear hcz20_1
            try clear hcz20_2
            try clear hcz20_3
            try clear hcz20_4
            try clear hcz23_0
            try clear hcz23_1
            try clear hcz23_2
            try clear hcz23_3
            try clear hcz23_4
            try clear hcz25_0
            try clear hcz25_1
            try clear hcz25_2
            try clear hcz25_3
            try clear hcz25_4
            try clear hcz6_0
            try clear hcz6_1
            try clear hcz6_2
            try clear hfz20_0
            try clear hfz20_1
            try clear hfz20_2
            try clear hfz20_3
            try clear hfz20_4
            try clear hfz23_0
            try clear hfz23_1
            try clear hfz23_2
            try clear hfz23_3
            try clear hfz23_4
            try clear hfz25_0
            try clear hfz25_1
            try clear hfz25_2
            try clear hfz25_3
            try clear hfz25_4
            try clear hfz6_0
            try clear hfz6_1
            try clear hfz6_2
            try clear hx316_0
            try clear hx316_1
            try clear hx316_2
            try clear hx316_3
            try clear hx316_4
            try clear p2
            try clear p316
            try clear q316
            obtain ⟨kq, x36_16, rfl, HA, HJ16, HO_7, BK311, BK317, HB⟩ := hcut
            cases kq with
            | zero => exact absurd HA.out (by simp [signalbenchref21_Encode.j4])
            | succ kj16 =>
             have H := HA.out
             clear HA
             simp only [signalbenchref21_Encode.j4] at H
             by_cases c26 : x36_16 = true
             ·subst c26
              have H1 : (some (([] : List (S46)), 1)) = some (r1, r2) := by rw [if_pos rfl] at H; exact H
              clear H
              have H := H1
              clear H1
              simp only [Option.some.injEq, Prod.mk.injEq] at H
              obtain ⟨rfl, rfl⟩ := H
              go_wp2
              go_ret2
              exact ⟨_, by first | rfl | (simp [errW_none, errW_some] <;> rfl) | (simp [*, errW_none, errW_some] <;> rfl), by first | exact Kd.R_nil _ _ _ _ _ | exact Kd.N_nil _ _ _ _ _ | exact Kd.V_nil _ _ _ _ _ | exact Kd.Q_nil _ _ _ _ _ | exact Kd.S_nil _ _ _ _ _, by repeat (first | (with_reducible first | exact HB.out | apply below_alloc | apply pw_below_drewN | apply below_drew1 | refine below_set ?_ GE311.out | refine below_set ?_ GE317.out) | exact HB.out)⟩
             ·replace c26 := Bool.eq_false_iff.mpr c26
              subst c26
              have H1 : (if (((rd_T46 l1 x8_3).f3).size : Int) > 4096 then (some (([] : List (S46)), 6)) else (if (((rd_T46 l1 x8_3).f3).size : Int) = a0_1 then (if ((rd_T46 l1 x8_3).f1) = 0 then (if ((rd_T46 l1 x8_3).f2) = 0 then (if ((rd_T46 l1 x8_3).f4) = 0 then ((signalbenchref03_FromBytes.f kj16 ((rd_T46 l1 x8_3).f3) a0_2).bind fun t318 => (if a0_0.size + t318.size ≤ 9223372036854775807 then (if x7_3.length < 2932031007402 then (signalbenchref21_Encode.l0 kj16 l1 (x7_3 ++ [(⟨((rd_T46 l1 x8_3).f0), 0, 0, a0_0 ++ t318, 0⟩ : S46)]) (wrap64 (x8_3 + 1)) a0_0 a0_1 a0_2) else (none)) else (none))) else (some (([] : List (S46)), 1))) else (some (([] : List (S46)), 1))) else (some (([] : List (S46)), 1))) else (some (([] : List (S46)), 2)))) = some (r1, r2) := by rw [if_neg (show ¬ (false = true) by decide)] at H; exact H
              clear H
              have H := H1
              clear H1
              by_cases c27 : (((rd_T46 l1 x8_3).f3).size : Int) > 4096
              ·rw [if_pos c27] at H
               have c27b0 : decide (4096 < (((rd_T46 l1 x8_3).f3).size : Int)) = true := decide_eq_true c27
               have c27b1 : decide (4096 < ((rd_T46 l1 x8_3).f3).size) = true := decide_eq_true (by omega)
               clear c27
               simp only [Option.some.injEq, Prod.mk.injEq] at H
               obtain ⟨rfl, rfl⟩ := H
               have hnb28 := NB317_311.out
               have hnc28 := NB311_317.out
               have hcz29_0 : wc.cell? ⟨gb317, 0, none⟩ = some (.int .i64 ((rd_T46 l1 x8_3).f0)) := (blk_cell BK317.out 0).trans rfl
               have hcz29_1 : wc.cell? ⟨gb317, 1, none⟩ = some (.int .i64 ((rd_T46 l1 x8_3).f1)) := (blk_cell BK317.out 1).trans rfl
               have hcz29_2 : wc.cell? ⟨gb317, 2, none⟩ = some (.int .i64 ((rd_T46 l1 x8_3).f2)) := (blk_cell BK317.out 2).trans rfl
               have hcz29_3 : wc.cell? ⟨gb317, 3, none⟩ = some (.string ((rd_T46 l1 x8_3).f3)) := (blk_cell BK317.out 3).trans rfl
               have hcz29_4 : wc.cell? ⟨gb317, 4, none⟩ = some (.int .i64 ((rd_T46 l1 x8_3).f4)) := (blk_cell BK317.out 4).trans rfl
               have hfz29_0 := blk_frozen BK317.out 0
               have hfz29_1 := blk_frozen BK317.out 1
               have hfz29_2 := blk_frozen BK317.out 2
               have hfz29_3 := blk_frozen BK317.out 3
               have hfz29_4 := blk_frozen BK317.out 4
               go_wp2
               go_ret2
               exact ⟨_, by first | rfl | (simp [errW_none, errW_some] <;> rfl) | (simp [*, errW_none, errW_some] <;> rfl), by first | exact Kd.R_nil _ _ _ _ _ | exact Kd.N_nil _ _ _ _ _ | exact Kd.V_nil _ _ _ _ _ | exact Kd.Q_nil _ _ _ _ _ | exact Kd.S_nil _ _ _ _ _, by repeat (first | (with_reducible first | exact HB.out | apply below_alloc | apply pw_below_drewN | apply below_drew1 | refine below_set ?_ GE311.out | refine below_set ?_ GE317.out) | exact HB.out)⟩
              ·rw [if_neg c27] at H
               have c27b0 : decide (4096 < (((rd_T46 l1 x8_3).f3).size : Int)) = false := decide_eq_false c27
               have c27b1 : decide (4096 < ((rd_T46 l1 x8_3).f3).size) = false := decide_eq_false (by omega)
               clear c27
               by_cases c30 : (((rd_T46 l1 x8_3).f3).size : Int) = a0_1
               ·rw [if_pos c30] at H
                have c30b0 : ((((rd_T46 l1 x8_3).f3).size : Int) == a0_1) = true := beq_iff_eq.mpr c30
                have c30b1 : ((((rd_T46 l1 x8_3).f3).size : Int) != a0_1) = false := bne_eq_false_iff_eq.mpr c30
                clear c30
                by_cases c31 : ((rd_T46 l1 x8_3).f1) = 0
                ·rw [if_pos c31] at H
                 have c31b0 : (((rd_T46 l1 x8_3).f1) == 0) = true := beq_iff_eq.mpr c31
                 have c31b1 : (((rd_T46 l1 x8_3).f1) != 0) = false := bne_eq_false_iff_eq.mpr c31
                 clear c31
                 by_cases c32 : ((rd_T46 l1 x8_3).f2) = 0
                 ·rw [if_pos c32] at H
                  have c32b0 : (((rd_T46 l1 x8_3).f2) == 0) = true := beq_iff_eq.mpr c32
                  have c32b1 : (((rd_T46 l1 x8_3).f2) != 0) = false := bne_eq_false_iff_eq.mpr c32
                  clear c32
                  by_cases c33 : ((rd_T46 l1 x8_3).f4) = 0
                  ·rw [if_pos c33] at H
                   have c33b0 : (((rd_T46 l1 x8_3).f4) == 0) = true := beq_iff_eq.mpr c33
                   have c33b1 : (((rd_T46 l1 x8_3).f4) != 0) = false := bne_eq_false_iff_eq.mpr c33
                   clear c33
                   replace H := Option.bind_eq_some_iff.mp H
                   obtain ⟨t318, A340, H⟩ := H
                   replace H : (if a0_0.size + t318.size ≤ 9223372036854775807 then (if x7_3.length < 2932031007402 then (signalbenchref21_Encode.l0 kj16 l1 (x7_3 ++ [(⟨((rd_T46 l1 x8_3).f0), 0, 0, a0_0 ++ t318, 0⟩ : S46)]) (wrap64 (x8_3 + 1)) a0_0 a0_1 a0_2) else (none)) else (none)) = some (r1, r2) := H
                   have A34 := Aside0.mk A340
                   clear A340
                   by_cases c35 : a0_0.size + t318.size ≤ 9223372036854775807
                   ·rw [if_pos c35] at H
                    have c35b0 := eq_true c35
                    have c35b1 : decide (a0_0.size + t318.size ≤ 9223372036854775807) = true := decide_eq_true c35
                    try have c35b2 : (9223372036854775807 < a0_0.size + t318.size) = False := eq_false (Nat.not_lt.2 c35)
                    by_cases c36 : x7_3.length < 2932031007402
                    ·rw [if_pos c36] at H
                     have LMc36 := Aside0.mk c36
                     clear c36
                     obtain ⟨y319, hy319⟩ : ∃ y_ : List (S46), y_ = (x7_3 ++ [(⟨((rd_T46 l1 x8_3).f0), 0, 0, a0_0 ++ t318, 0⟩ : S46)]) := ⟨_, rfl⟩
                     replace H : (signalbenchref21_Encode.l0 kj16 l1 y319 (wrap64 (x8_3 + 1)) a0_0 a0_1 a0_2) = some (r1, r2) := by first | (rw [hy319]; with_reducible exact H) | (have H2_ := (Option.bind_some _ _).symm.trans H; rw [hy319]; with_reducible exact H2_) | (have H2_ := (Option.bind_some _ _).symm.trans H; with_reducible exact H2_) | with_reducible exact H | (rw [hy319]; exact H) | exact H
                     have Ny319 := Aside0.mk hy319
                     clear hy319
                     have H' := Aside0.mk H
                     clear H
                     have hnb37 := NB317_311.out
                     have hnc37 := NB311_317.out
                     have hcz38_0 : wc.cell? ⟨gb317, 0, none⟩ = some (.int .i64 ((rd_T46 l1 x8_3).f0)) := (blk_cell BK317.out 0).trans rfl
                     have hcz38_1 : wc.cell? ⟨gb317, 1, none⟩ = some (.int .i64 ((rd_T46 l1 x8_3).f1)) := (blk_cell BK317.out 1).trans rfl
                     have hcz38_2 : wc.cell? ⟨gb317, 2, none⟩ = some (.int .i64 ((rd_T46 l1 x8_3).f2)) := (blk_cell BK317.out 2).trans rfl
                     have hcz38_3 : wc.cell? ⟨gb317, 3, none⟩ = some (.string ((rd_T46 l1 x8_3).f3)) := (blk_cell BK317.out 3).trans rfl
                     have hcz38_4 : wc.cell? ⟨gb317, 4, none⟩ = some (.int .i64 ((rd_T46 l1 x8_3).f4)) := (blk_cell BK317.out 4).trans rfl
                     have hfz38_0 := blk_frozen BK317.out 0
                     have hfz38_1 := blk_frozen BK317.out 1
                     have hfz38_2 := blk_frozen BK317.out 2
                     have hfz38_3 := blk_frozen BK317.out 3
                     have hfz38_4 := blk_frozen BK317.out 4
                     have hcz39_0 : wc.cell? ⟨gb311, 0, none⟩ = some (.string a0_0) := (blk_cell BK311.out 0).trans rfl
                     have hcz39_1 : wc.cell? ⟨gb311, 1, none⟩ = some (.int .i64 a0_1) := (blk_cell BK311.out 1).trans rfl
                     have hcz39_2 : wc.cell? ⟨gb311, 2, none⟩ = some (.bool a0_2) := (blk_cell BK311.out 2).trans rfl
                     have hfz39_0 := blk_frozen BK311.out 0
                     have hfz39_1 := blk_frozen BK311.out 1
                     have hfz39_2 := blk_frozen BK311.out 2
                     try go_wp2
                     have n0_ := Aside0.mk (Kd.R_drew HO_7.out)
                     have n1_ := Aside0.mk (blk_drew BK311.out)
                     have n2_ := Aside0.mk (blk_drew BK317.out)
                     have n3_ := Aside0.mk (below_drew1 HB.out)
                     clear HO_7
                     clear BK311
                     clear BK317
                     clear HB
                     have HO_7 := n0_
                     have BK311 := n1_
                     have BK317 := n2_
                     have HB := n3_
                     clear n0_ n1_ n2_ n3_
                     refine start_ (n := 15) (S := fun w' => w'.cell? ⟨gb317, 0, none⟩ = some (.int .i64 ((rd_T46 l1 x8_3).f0)) ∧ w'.cell? ⟨gb317, 1, none⟩ = some (.int .i64 ((rd_T46 l1 x8_3).f1)) ∧ w'.cell? ⟨gb317, 2, none⟩ = some (.int .i64 ((rd_T46 l1 x8_3).f2)) ∧ w'.cell? ⟨gb317, 3, none⟩ = some (.string ((rd_T46 l1 x8_3).f3)) ∧ w'.cell? ⟨gb317, 4, none⟩ = some (.int .i64 ((rd_T46 l1 x8_3).f4)) ∧ w'.cell? ⟨gb311, 0, none⟩ = some (.string a0_0) ∧ w'.cell? ⟨gb311, 1, none⟩ = some (.int .i64 a0_1) ∧ w'.cell? ⟨gb311, 2, none⟩ = some (.bool a0_2)) (ds := []) #[false, false, false, false, false, false, false, false, false, false, false, false, false, false, false] (by kernel_rfl) rfl rfl ⟨(blk_cell BK317.out 0).trans rfl, (blk_cell BK317.out 1).trans rfl, (blk_cell BK317.out 2).trans rfl, (blk_cell BK317.out 3).trans rfl, (blk_cell BK317.out 4).trans rfl, (blk_cell BK311.out 0).trans rfl, (blk_cell BK311.out 1).trans rfl, (blk_cell BK311.out 2).trans rfl⟩ (fun hHeld => ?_); refine with_tabW signalbenchref21_Encode.tab19 signalbenchref21_Encode.bits19 (fun HT_ HW_ => ?_)
                     generalize wc.drew = w40 at HO_7 BK311 BK317 HB hHeld ⊢
                     refine pstep 0 (some 60) #[true, false, false, false, false, false, false, false, false, false, false, false, false, false, false] HT_.out ?_
                     refine pstep 1 (some 61) #[true, true, false, false, false, false, false, false, false, false, false, false, false, false, false] HT_.out ?_
                     refine pstep 3 (some 63) #[true, true, false, true, false, false, false, false, false, false, false, false, false, false, false] HT_.out ?_
                     refine pstep 5 (some 65) #[true, true, false, true, false, true, false, false, false, false, false, false, false, false, false] HT_.out ?_
                     refine pstep 7 (some 67) #[true, true, false, true, false, true, false, true, false, false, false, false, false, false, false] HT_.out ?_
                     refine take_ (i := 2) (N := some 62) (v := ?_) (a' := ?_) #[true, true, true, true, false, true, false, true, false, false, false, false, false, false, false] rfl rfl (take_ofW HT_.out HW_.out (by kernel_rfl)) (fun _ _ _ h => h) (Or.inl ⟨by rfl, ?_⟩) hHeld ?_ ?_
                     rotate_left
                     ·rintro w' ⟨s0, s1, s2, s3, s4, s5, s6, s7⟩
                      go_simp
                      with_reducible rfl
                     rotate_left
                     ·simp only [Act.put, nrm]
                      rfl
                     refine take_ (i := 4) (N := some 64) (v := ?_) (a' := ?_) #[true, true, true, true, true, true, false, true, false, false, false, false, false, false, false] rfl rfl (take_ofW HT_.out HW_.out (by kernel_rfl)) (fun _ _ _ h => h) (Or.inl ⟨by rfl, ?_⟩) hHeld ?_ ?_
                     rotate_left
                     ·rintro w' ⟨s0, s1, s2, s3, s4, s5, s6, s7⟩
                      go_simp
                      with_reducible rfl
                     rotate_left
                     ·simp only [Act.put, nrm]
                      rfl
                     refine take_ (i := 6) (N := some 66) (v := ?_) (a' := ?_) #[true, true, true, true, true, true, true, true, false, false, false, false, false, false, false] rfl rfl (take_ofW HT_.out HW_.out (by kernel_rfl)) (fun _ _ _ h => h) (Or.inl ⟨by rfl, ?_⟩) hHeld ?_ ?_
                     rotate_left
                     ·rintro w' ⟨s0, s1, s2, s3, s4, s5, s6, s7⟩
                      go_simp
                      with_reducible rfl
                     rotate_left
                     ·simp only [Act.put, nrm]
                      rfl
                     refine take_ (i := 8) (N := some 68) (v := ?_) (a' := ?_) #[true, true, true, true, true, true, true, true, true, false, false, false, false, false, false] rfl rfl (take_ofW HT_.out HW_.out (by kernel_rfl)) (fun _ _ _ h => h) (Or.inl ⟨by rfl, ?_⟩) hHeld ?_ ?_
                     rotate_left
                     ·rintro w' ⟨s0, s1, s2, s3, s4, s5, s6, s7⟩
                      go_simp
                      with_reducible rfl
                     rotate_left
                     ·simp only [Act.put, nrm]
                      rfl
                     refine one_ (i := 9) (N := some 69) #[true, true, true, true, true, true, true, true, true, true, false, false, false, false, false] rfl rfl (one_of HT_.out (by kernel_rfl)) (by decide) (fun K hK => ?_)
                     refine goes_ Try.func40 (by kernel_rfl) rfl #[.string ((rd_T46 l1 x8_3).f3), .bool a0_2] (by rfl) rfl rfl (by (try simp only [List.map_toArray, List.map_cons, List.map_nil]); first | done | rfl | (simp only [List.length_drop, List.length_take]; rfl)) ?_
                     with_reducible refine (signalbenchref03_FromBytes.calls kj16 ((rd_T46 l1 x8_3).f3) a0_2 t318 _ A34.out).mono ?_
                     rintro e w41 ⟨rfl, hb⟩
                     refine ⟨_, rfl, ?_⟩
                     have n0_ := Aside0.mk (Kd.R_below (rkw HO_7.out) hb)
                     have n1_ := Aside0.mk (blkb BK311.out hb)
                     have n2_ := Aside0.mk (blkb BK317.out hb)
                     have n3_ := Aside0.mk (below_step (hbw HB.out) hb)
                     clear HO_7
                     clear BK311
                     clear BK317
                     clear HB
                     have HO_7 := n0_
                     have BK311 := n1_
                     have BK317 := n2_
                     have HB := n3_
                     clear n0_ n1_ n2_ n3_
                     (try clear hb)
                     (try clear hb2)
                     (try clear hk)
                     (try clear hi)
                     refine hK.out _ _ ⟨(blk_cell BK317.out 0).trans rfl, (blk_cell BK317.out 1).trans rfl, (blk_cell BK317.out 2).trans rfl, (blk_cell BK317.out 3).trans rfl, (blk_cell BK317.out 4).trans rfl, (blk_cell BK311.out 0).trans rfl, (blk_cell BK311.out 1).trans rfl, (blk_cell BK311.out 2).trans rfl⟩ (fun hHeld => ?_)
                     clear hK K
                     refine norm_ (a' := ?_) ?_ ?_
                     rotate_left
                     ·show Act.put _ (some 69) _ = _
                      simp only [Act.put, nrm]
                      rfl
                     refine pstep 10 (some 70) #[true, true, true, true, true, true, true, true, true, true, true, false, false, false, false] HT_.out ?_
                     refine pstep 11 (some 71) #[true, true, true, true, true, true, true, true, true, true, true, true, false, false, false] HT_.out ?_
                     refine one_ (i := 12) (N := some 72) #[true, true, true, true, true, true, true, true, true, true, true, true, true, false, false] rfl rfl (one_of HT_.out (by kernel_rfl)) (by decide) (fun K hK => ?_)
                     refine value_ (w1 := ?_) (v := ?_) (by rfl) rfl ?_ ?_
                     rotate_left 2
                     ·go_simp
                      constructor
                      ·rfl
                      ·rfl
                     refine hK.out _ _ ⟨(blk_cell (blk_alloc BK317.out _) 0).trans rfl, (blk_cell (blk_alloc BK317.out _) 1).trans rfl, (blk_cell (blk_alloc BK317.out _) 2).trans rfl, (blk_cell (blk_alloc BK317.out _) 3).trans rfl, (blk_cell (blk_alloc BK317.out _) 4).trans rfl, (blk_cell (blk_alloc BK311.out _) 0).trans rfl, (blk_cell (blk_alloc BK311.out _) 1).trans rfl, (blk_cell (blk_alloc BK311.out _) 2).trans rfl⟩ (fun hHeld => ?_)
                     clear hK K
                     refine norm_ (a' := ?_) ?_ ?_
                     rotate_left
                     ·show Act.put _ (some 72) _ = _
                      simp only [Act.put, nrm]
                      rfl
                     refine one_ (i := 13) (N := some 73) #[true, true, true, true, true, true, true, true, true, true, true, true, true, true, false] rfl rfl (one_of HT_.out (by kernel_rfl)) (by decide) (fun K hK => ?_)
                     refine Kd.R_append_step k46 (w0 := w) w.heap.size (by rfl) (.tmp 60) (.tmp 72) 37 46 (.agg #[(.int .i64 0), (.int .i64 0), (.int .i64 0), (.string ⟨#[]⟩), (.int .i64 0)]) 48 rfl Try.underlying37 info46 rfl (by decide) (by omega) u7 x7_3 (⟨((rd_T46 l1 x8_3).f0), 0, 0, a0_0 ++ t318, 0⟩ : S46) [.int .i64 ((rd_T46 l1 x8_3).f0), .int .i64 0, .int .i64 0, .string (a0_0 ++ t318), .int .i64 0] (fun k_ => k_ ≠ gb317) (fun _ => False) rfl rfl ?aP (fun _ hk => hk.elim) ?aF ?aO ?aB ?aS ?aL ?_
                     (case aP => exact k46_mkM _ _ _ (⟨((rd_T46 l1 x8_3).f0), 0, 0, a0_0 ++ t318, 0⟩ : S46))
                     (case aB => exact (hbw HB.out))
                     (case aF => exact (fun k_ hk => Kd.freshB (g := gb317) (o := .cells #[.int .i64 ((rd_T46 l1 x8_3).f0), .int .i64 ((rd_T46 l1 x8_3).f1), .int .i64 ((rd_T46 l1 x8_3).f2), .string ((rd_T46 l1 x8_3).f3), .int .i64 ((rd_T46 l1 x8_3).f4)] 46 (0, 0)) (bkw BK317.out) k_ hk))
                     (case aO => exact (rkw HO_7.out))
                     (case aS => exact (below_size (hbw HB.out)))
                     (case aL => have := LMc36.out; omega)
                     intro v320 w42 ho hb hg hat
                     rw [← Ny319.out] at ho
                     have n0_ := Aside0.mk (blkg BK311.out hg (Kd.R_ne HO_7.out BK311.out (by decide)))
                     have n1_ := Aside0.mk (blkg BK317.out hg (Kd.R_away HO_7.out (fun _ hk => hk)))
                     have n2_ := Aside0.mk (hb)
                     have n3_ := Aside0.mk (ho)
                     clear BK311
                     clear BK317
                     clear HB
                     clear HO_7
                     have BK311 := n0_
                     have BK317 := n1_
                     have HB := n2_
                     have HO321 := n3_
                     clear n0_ n1_ n2_ n3_
                     clear ho hb hg hat
                     refine hK.out _ _ ⟨(blk_cell BK317.out 0).trans rfl, (blk_cell BK317.out 1).trans rfl, (blk_cell BK317.out 2).trans rfl, (blk_cell BK317.out 3).trans rfl, (blk_cell BK317.out 4).trans rfl, (blk_cell BK311.out 0).trans rfl, (blk_cell BK311.out 1).trans rfl, (blk_cell BK311.out 2).trans rfl⟩ (fun hHeld => ?_)
                     clear hK K
                     refine norm_ (a' := ?_) ?_ ?_
                     rotate_left
                     ·show Act.put _ (some 73) _ = _
                      simp only [Act.put, nrm]
                      rfl
                     refine pstep 14 (some 7) #[true, true, true, true, true, true, true, true, true, true, true, true, true, true, true] HT_.out ?_
                     refine done_ (done_of HT_.out (by kernel_rfl)) ?_
                     try go_wp2
                     go_roundg kj16
                     case measure => have := HJ3.out; have := HJ8.out; have := HK3.out; have := HJ12.out; have := HJ16.out; omega
                     case rel => exact ⟨(y319), (wrap64 (x8_3 + 1)), (by first | rfl | (simp; done) | (simp [*]; done)), H', ⟨by have := HJ3.out; have := HJ8.out; have := HK3.out; have := HJ12.out; have := HJ16.out; omega⟩, ⟨by (with_reducible repeat (first | apply Kd.R_alloc | apply Kd.R_drewN | apply Kd.R_drew)); exact Kd.R_mono HO321.out (fun _ hk => trivial)⟩, ⟨by (with_reducible repeat (first | refine blk_drewN ?_ _ | refine blk_drew ?_ | refine blk_alloc ?_ _)); exact BK311.out⟩, ⟨by repeat (first | (with_reducible first | exact HB.out | apply below_alloc | apply pw_below_drewN | apply below_drew1 | refine below_set ?_ GE311.out | refine below_set ?_ GE317.out) | exact HB.out)⟩⟩
                    ·rw [if_neg c36] at H
                     exact absurd H (by simp)
                   ·rw [if_neg c35] at H
                    exact absurd H (by simp)
                  ·rw [if_neg c33] at H
                   have c33b0 : (((rd_T46 l1 x8_3).f4) == 0) = false := beq_eq_false_iff_ne.mpr c33
                   have c33b1 : (((rd_T46 l1 x8_3).f4) != 0) = true := bne_iff_ne.mpr c33
                   simp only [Option.some.injEq, Prod.mk.injEq] at H
                   obtain ⟨rfl, rfl⟩ := H
                   have hnb43 := NB317_311.out
                   have hnc43 := NB311_317.out
                   have hcz44_0 : wc.cell? ⟨gb317, 0, none⟩ = some (.int .i64 ((rd_T46 l1 x8_3).f0)) := (blk_cell BK317.out 0).trans rfl
                   have hcz44_1 : wc.cell? ⟨gb317, 1, none⟩ = some (.int .i64 ((rd_T46 l1 x8_3).f1)) := (blk_cell BK317.out 1).trans rfl
                   have hcz44_2 : wc.cell? ⟨gb317, 2, none⟩ = some (.int .i64 ((rd_T46 l1 x8_3).f2)) := (blk_cell BK317.out 2).trans rfl
                   have hcz44_3 : wc.cell? ⟨gb317, 3, none⟩ = some (.string ((rd_T46 l1 x8_3).f3)) := (blk_cell BK317.out 3).trans rfl
                   have hcz44_4 : wc.cell? ⟨gb317, 4, none⟩ = some (.int .i64 ((rd_T46 l1 x8_3).f4)) := (blk_cell BK317.out 4).trans rfl
                   have hfz44_0 := blk_frozen BK317.out 0
                   have hfz44_1 := blk_frozen BK317.out 1
                   have hfz44_2 := blk_frozen BK317.out 2
                   have hfz44_3 := blk_frozen BK317.out 3
                   have hfz44_4 := blk_frozen BK317.out 4
                   have hcz45_0 : wc.cell? ⟨gb311, 0, none⟩ = some (.string a0_0) := (blk_cell BK311.out 0).trans rfl
                   have hcz45_1 : wc.cell? ⟨gb311, 1, none⟩ = some (.int .i64 a0_1) := (blk_cell BK311.out 1).trans rfl
                   have hcz45_2 : wc.cell? ⟨gb311, 2, none⟩ = some (.bool a0_2) := (blk_cell BK311.out 2).trans rfl
                   have hfz45_0 := blk_frozen BK311.out 0
                   have hfz45_1 := blk_frozen BK311.out 1
                   have hfz45_2 := blk_frozen BK311.out 2
                   go_wp2
                   go_ret2
                   exact ⟨_, by first | rfl | (simp [errW_none, errW_some] <;> rfl) | (simp [*, errW_none, errW_some] <;> rfl), by first | exact Kd.R_nil _ _ _ _ _ | exact Kd.N_nil _ _ _ _ _ | exact Kd.V_nil _ _ _ _ _ | exact Kd.Q_nil _ _ _ _ _ | exact Kd.S_nil _ _ _ _ _, by repeat (first | (with_reducible first | exact HB.out | apply below_alloc | apply pw_below_drewN | apply below_drew1 | refine below_set ?_ GE311.out | refine below_set ?_ GE317.out) | exact HB.out)⟩
                 ·rw [if_neg c32] at H
                  have c32b0 : (((rd_T46 l1 x8_3).f2) == 0) = false := beq_eq_false_iff_ne.mpr c32
                  have c32b1 : (((rd_T46 l1 x8_3).f2) != 0) = true := bne_iff_ne.mpr c32
                  simp only [Option.some.injEq, Prod.mk.injEq] at H
                  obtain ⟨rfl, rfl⟩ := H
                  have hnb46 := NB317_311.out
                  have hnc46 := NB311_317.out
                  have hcz47_0 : wc.cell? ⟨gb317, 0, none⟩ = some (.int .i64 ((rd_T46 l1 x8_3).f0)) := (blk_cell BK317.out 0).trans rfl
                  have hcz47_1 : wc.cell? ⟨gb317, 1, none⟩ = some (.int .i64 ((rd_T46 l1 x8_3).f1)) := (blk_cell BK317.out 1).trans rfl
                  have hcz47_2 : wc.cell? ⟨gb317, 2, none⟩ = some (.int .i64 ((rd_T46 l1 x8_3).f2)) := (blk_cell BK317.out 2).trans rfl
                  have hcz47_3 : wc.cell? ⟨gb317, 3, none⟩ = some (.string ((rd_T46 l1 x8_3).f3)) := (blk_cell BK317.out 3).trans rfl
                  have hcz47_4 : wc.cell? ⟨gb317, 4, none⟩ = some (.int .i64 ((rd_T46 l1 x8_3).f4)) := (blk_cell BK317.out 4).trans rfl
                  have hfz47_0 := blk_frozen BK317.out 0
                  have hfz47_1 := blk_frozen BK317.out 1
                  have hfz47_2 := blk_frozen BK317.out 2
                  have hfz47_3 := blk_frozen BK317.out 3
                  have hfz47_4 := blk_frozen BK317.out 4
                  have hcz48_0 : wc.cell? ⟨gb311, 0, none⟩ = some (.string a0_0) := (blk_cell BK311.out 0).trans rfl
                  have hcz48_1 : wc.cell? ⟨gb311, 1, none⟩ = some (.int .i64 a0_1) := (blk_cell BK311.out 1).trans rfl
                  have hcz48_2 : wc.cell? ⟨gb311, 2, none⟩ = some (.bool a0_2) := (blk_cell BK311.out 2).trans rfl
                  have hfz48_0 := blk_frozen BK311.out 0
                  have hfz48_1 := blk_frozen BK311.out 1
                  have hfz48_2 := blk_frozen BK311.out 2
                  go_wp2
                  go_ret2
                  exact ⟨_, by first | rfl | (simp [errW_none, errW_some] <;> rfl) | (simp [*, errW_none, errW_some] <;> rfl), by first | exact Kd.R_nil _ _ _ _ _ | exact Kd.N_nil _ _ _ _ _ | exact Kd.V_nil _ _ _ _ _ | exact Kd.Q_nil _ _ _ _ _ | exact Kd.S_nil _ _ _ _ _, by repeat (first | (with_reducible first | exact HB.out | apply below_alloc | apply pw_below_drewN | apply below_drew1 | refine below_set ?_ GE311.out | refine below_set ?_ GE317.out) | exact HB.out)⟩
                ·rw [if_neg c31] at H
                 have c31b0 : (((rd_T46 l1 x8_3).f1) == 0) = false := beq_eq_false_iff_ne.mpr c31
                 have c31b1 : (((rd_T46 l1 x8_3).f1) != 0) = true := bne_iff_ne.mpr c31
                 simp only [Option.some.injEq, Prod.mk.injEq] at H
                 obtain ⟨rfl, rfl⟩ := H
                 have hnb49 := NB317_311.out
                 have hnc49 := NB311_317.out
                 have hcz50_0 : wc.cell? ⟨gb317, 0, none⟩ = some (.int .i64 ((rd_T46 l1 x8_3).f0)) := (blk_cell BK317.out 0).trans rfl
                 have hcz50_1 : wc.cell? ⟨gb317, 1, none⟩ = some (.int .i64 ((rd_T46 l1 x8_3).f1)) := (blk_cell BK317.out 1).trans rfl
                 have hcz50_2 : wc.cell? ⟨gb317, 2, none⟩ = some (.int .i64 ((rd_T46 l1 x8_3).f2)) := (blk_cell BK317.out 2).trans rfl
                 have hcz50_3 : wc.cell? ⟨gb317, 3, none⟩ = some (.string ((rd_T46 l1 x8_3).f3)) := (blk_cell BK317.out 3).trans rfl
                 have hcz50_4 : wc.cell? ⟨gb317, 4, none⟩ = some (.int .i64 ((rd_T46 l1 x8_3).f4)) := (blk_cell BK317.out 4).trans rfl
                 have hfz50_0 := blk_frozen BK317.out 0
                 have hfz50_1 := blk_frozen BK317.out 1
                 have hfz50_2 := blk_frozen BK317.out 2
                 have hfz50_3 := blk_frozen BK317.out 3
                 have hfz50_4 := blk_frozen BK317.out 4
                 have hcz51_0 : wc.cell? ⟨gb311, 0, none⟩ = some (.string a0_0) := (blk_cell BK311.out 0).trans rfl
                 have hcz51_1 : wc.cell? ⟨gb311, 1, none⟩ = some (.int .i64 a0_1) := (blk_cell BK311.out 1).trans rfl
                 have hcz51_2 : wc.cell? ⟨gb311, 2, none⟩ = some (.bool a0_2) := (blk_cell BK311.out 2).trans rfl
                 have hfz51_0 := blk_frozen BK311.out 0
                 have hfz51_1 := blk_frozen BK311.out 1
                 have hfz51_2 := blk_frozen BK311.out 2
                 go_wp2
                 go_ret2
                 exact ⟨_, by first | rfl | (simp [errW_none, errW_some] <;> rfl) | (simp [*, errW_none, errW_some] <;> rfl), by first | exact Kd.R_nil _ _ _ _ _ | exact Kd.N_nil _ _ _ _ _ | exact Kd.V_nil _ _ _ _ _ | exact Kd.Q_nil _ _ _ _ _ | exact Kd.S_nil _ _ _ _ _, by repeat (first | (with_reducible first | exact HB.out | apply below_alloc | apply pw_below_drewN | apply below_drew1 | refine below_set ?_ GE311.out | refine below_set ?_ GE317.out) | exact HB.out)⟩
               ·rw [if_neg c30] at H
                have c30b0 : ((((rd_T46 l1 x8_3).f3).size : Int) == a0_1) = false := beq_eq_false_iff_ne.mpr c30
                have c30b1 : ((((rd_T46 l1 x8_3).f3).size : Int) != a0_1) = true := bne_iff_ne.mpr c30
                simp only [Option.some.injEq, Prod.mk.injEq] at H
                obtain ⟨rfl, rfl⟩ := H
                have hnb52 := NB317_311.out
                have hnc52 := NB311_317.out
                have hcz53_0 : wc.cell? ⟨gb317, 0, none⟩ = some (.int .i64 ((rd_T46 l1 x8_3).f0)) := (blk_cell BK317.out 0).trans rfl
                have hcz53_1 : wc.cell? ⟨gb317, 1, none⟩ = some (.int .i64 ((rd_T46 l1 x8_3).f1)) := (blk_cell BK317.out 1).trans rfl
                have hcz53_2 : wc.cell? ⟨gb317, 2, none⟩ = some (.int .i64 ((rd_T46 l1 x8_3).f2)) := (blk_cell BK317.out 2).trans rfl
                have hcz53_3 : wc.cell? ⟨gb317, 3, none⟩ = some (.string ((rd_T46 l1 x8_3).f3)) := (blk_cell BK317.out 3).trans rfl
                have hcz53_4 : wc.cell? ⟨gb317, 4, none⟩ = some (.int .i64 ((rd_T46 l1 x8_3).f4)) := (blk_cell BK317.out 4).trans rfl
                have hfz53_0 := blk_frozen BK317.out 0
                have hfz53_1 := blk_frozen BK317.out 1
                have hfz53_2 := blk_frozen BK317.out 2
                have hfz53_3 := blk_frozen BK317.out 3
                have hfz53_4 := blk_frozen BK317.out 4
                have hcz54_0 : wc.cell? ⟨gb311, 0, none⟩ = some (.string a0_0) := (blk_cell BK311.out 0).trans rfl
                have hcz54_1 : wc.cell? ⟨gb311, 1, none⟩ = some (.int .i64 a0_1) := (blk_cell BK311.out 1).trans rfl
                have hcz54_2 : wc.cell? ⟨gb311, 2, none⟩ = some (.bool a0_2) := (blk_cell BK311.out 2).trans rfl
                have hfz54_0 := blk_frozen BK311.out 0
                have hfz54_1 := blk_frozen BK311.out 1
                have hfz54_2 := blk_frozen BK311.out 2
                go_wp2
                go_ret2
                exact ⟨_, by first | rfl | (simp [errW_none, errW_some] <;> rfl) | (simp [*, errW_none, errW_some] <;> rfl), by first | exact Kd.R_nil _ _ _ _ _ | exact Kd.N_nil _ _ _ _ _ | exact Kd.V_nil _ _ _ _ _ | exact Kd.Q_nil _ _ _ _ _ | exact Kd.S_nil _ _ _ _ _, by repeat (first | (with_reducible first | exact HB.out | apply below_alloc | apply pw_below_drewN | apply below_drew1 | refine below_set ?_ GE311.out | refine below_set ?_ GE317.out) | exact HB.out)⟩
          ·rw [if_neg c16] at H
           exact absurd H (by simp)
         ·rw [if_neg c15] at H
          exact absurd H (by simp)

end Go.Proofs.Ytbggkaofkohecaa.PSyncEncodes
